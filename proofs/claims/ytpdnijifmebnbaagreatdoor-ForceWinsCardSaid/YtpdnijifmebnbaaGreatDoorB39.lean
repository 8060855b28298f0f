/-
  Steps to a law of this program: SWn3, SDr6, SDr7, SGr1, SWn4, SWn11, SWn12, SWn13.
  Conditions: none.
-/
import Derived.Test.YtpdnijifmebnbaaGreatDoorB33
import Derived.Test.YtpdnijifmebnbaaGreatDoorB17
import Derived.Test.YtpdnijifmebnbaaGreatDoorB36
import Derived.Test.YtpdnijifmebnbaaGreatDoorB37
import Derived.Test.YtpdnijifmebnbaaGreatDoorB38
set_option linter.unusedVariables false
set_option linter.unusedSimpArgs false
set_option linter.unusedSectionVars false
namespace Go.Abs
noncomputable section
open Go.Proofs
set_option maxRecDepth 100000
theorem xaO {x s:Nat} (hx:x < 18446744073709551616) (hs:s < 64):zb Tryz.prog 54 [.int .u64 ((x:Nat):Int),.int .i64 ((s:Nat):Int)] (.bool (x.testBit s)):=by
 have hb:=zaV x s hs
 refine yc (wb (.int _ _) (.int _ _)) (.bool _) (jb yd mixed Tryz.func54 rfl (by decide +kernel) ?_)
 conv=>whnf
 repeat ((first | refine And.intro (Int.natCast_nonneg s) ?_ | refine And.intro rfl ?_);conv=>whnf)
 rw [← hb]
 exact .pure _ (.bool _)
def xr (rows:List (List Ch × Option Nat)) (t:Nat):List Nat:=match rows[t]? with
 | some (x :: _,_)=>x.l.map (·.to)
 | _=>[]
def xn (x b:Nat):Nat:=x ||| 2 ^ b
def jt (rows:List (List Ch × Option Nat)) (stop x t:Nat):Nat:=if x.testBit t=true∧stop.testBit t=false then (xr rows t).foldl xn x else x
def qi (rows:List (List Ch × Option Nat)) (stop x:Nat):Nat→Nat
 | 0=>x
 | t + 1=>jt rows stop (qi rows stop x t) t
def je (rows:List (List Ch × Option Nat)) (stop s:Nat):Nat→Nat
 | 0=>2 ^ s
 | i + 1=>qi rows stop (je rows stop s i) rows.length
theorem uby {n x b:Nat} (hx:x < 2 ^ n) (hb:b < n):xn x b < 2 ^ n:=Nat.or_lt_two_pow hx (Nat.pow_lt_pow_right (by decide) hb)
theorem yaX {n:Nat}:∀ (l:List Nat) (x:Nat),x < 2 ^ n→(∀ b∈l,b < n)→l.foldl xn x < 2 ^ n
 | [],_,hx,_=>hx
 | b :: l,x,hx,h=>yaX l _ (uby hx (h b (List.mem_cons_self ..))) fun c hc=>h c (List.mem_cons_of_mem _ hc)
theorem ModOK.tos {os:List Nat} {rows:List (List Ch × Option Nat)} (h:ModOK os rows) (t:Nat):∀ b∈xr rows t,b < os.length:=fun b hb=>by
 unfold xr at hb
 split at hb
 ·rename_i x r c hr
  obtain ⟨y,hy,rfl⟩:=List.mem_map.1 hb
  have hm:(x :: r,c)∈rows:=List.mem_of_getElem? hr
  exact (h.chs _ hm x (List.mem_cons_self ..)).brs.lt y hy
 ·cases hb
theorem wb6 {os:List Nat} {rows:List (List Ch × Option Nat)} (h:ModOK os rows) {stop x t:Nat} (hx:x < 2 ^ os.length):jt rows stop x t < 2 ^ os.length:=by
 unfold jt
 split
 ·exact yaX _ _ hx (h.tos t)
 ·exact hx
theorem xaP {os:List Nat} {rows:List (List Ch × Option Nat)} (h:ModOK os rows) {stop x:Nat} (hx:x < 2 ^ os.length):∀ t,qi rows stop x t < 2 ^ os.length
 | 0=>hx
 | t + 1=>wb6 h (xaP h hx t)
theorem jZ {os:List Nat} {rows:List (List Ch × Option Nat)} (h:ModOK os rows) {stop s:Nat} (hs:s < os.length):∀ i,je rows stop s i < 2 ^ os.length
 | 0=>Nat.pow_lt_pow_right (by decide) hs
 | i + 1=>xaP h (jZ h hs i) _
set_option maxHeartbeats 4000000 in
theorem qaO {os:List Nat} {oc cc:Option Nat} {rows:List (List Ch × Option Nat)} {s stop:Nat} (h:ModOK os rows) (hs:s < os.length) (hst:stop < 18446744073709551616) :
  zb Tryz.prog 53 [.agg (ye os oc rows cc),.int .i64 ((s:Nat):Int),.int .u64 ((stop:Nat):Int)] (.int .u64 ((je rows stop s os.length:Nat):Int)):=by
 have hs0:=h.states
 have hw:=h.width
 have hlo:(osV os).length=os.length:=by simp [osV]
 have big:2 ^ os.length < 18446744073709551616:=Nat.lt_of_lt_of_le (Nat.pow_lt_pow_right (by decide:1 < 2) (show os.length < 64 by omega)) (by decide)
 refine yc (jx (zk ..) (.int _ _) (.int _ _)) (.int _ _) (jb yd mixed Tryz.func53 rfl (by decide +kernel) ?_)
 conv=>whnf
 repeat ((first | refine And.intro ⟨rfl,by decide,rfl⟩ ?_ | refine And.intro (Int.natCast_nonneg s) ?_ | refine And.intro rfl ?_);conv=>whnf)
 refine gf yd mixed 65 (fun i:Nat=>os.length - i) (fun i=>i≤os.length)
  (fun i=>[(2,.int .u64 ((stop:Nat):Int)),(3,.ptr 0 0 0),(7,.int .u64 ((je rows stop s i:Nat):Int)),(8,.int .i64 ((i:Nat):Int))]) (fun _=>⟨[some (.rows [ye os oc rows cc] false false)],[]⟩) ?_ 0 _ (Nat.zero_le _) rfl rfl ⟨rfl,rfl,?_,rfl,trivial⟩
 ·rintro i g1 i1
  replace i1:i≤os.length:=i1
  have hF:=jZ h hs (stop:=stop) i
  conv=>whnf
  repeat ((first | refine za rfl ?_ | refine qc hlo ?_ | refine And.intro rfl ?_);conv=>whnf)
  refine yf (fun h4 => ?_) (fun h4 => ?_) <;> conv=>whnf
  ·have hi:i < os.length:=by have:((i:Nat):Int) < ((os.length:Nat):Int):=h4;omega
   repeat ((first | refine And.intro rfl ?_);conv=>whnf)
   refine gf yd mixed 65 (fun t:Nat=>os.length - t) (fun t=>t≤os.length)
    (fun t=>[(2,.int .u64 ((stop:Nat):Int)),(3,.ptr 0 0 0),(7,.int .u64 ((qi rows stop (je rows stop s i) t:Nat):Int)),(8,.int .i64 ((i:Nat):Int)),(9,.int .i64 ((t:Nat):Int))]) (fun _=>⟨[some (.rows [ye os oc rows cc] false false)],[]⟩) ?_ 0 _ (Nat.zero_le _) rfl rfl ⟨rfl,rfl,rfl,rfl,rfl,trivial⟩
   rintro t g2 t1
   replace t1:t≤os.length:=t1
   have hP:=xaP h hF (stop:=stop) t
   have hstep:qi rows stop (je rows stop s i) (t + 1)=jt rows stop (qi rows stop (je rows stop s i) t) t:=rfl
   obtain ⟨x,hx⟩:∃ x,qi rows stop (je rows stop s i) t=x:=⟨_,rfl⟩
   rw [hx] at hP hstep ⊢
   conv=>whnf
   repeat ((first | refine za rfl ?_ | refine qc hlo ?_ | refine And.intro rfl ?_);conv=>whnf)
   refine yf (fun h5 => ?_) (fun h5 => ?_) <;> conv=>whnf
   ·have ht:t < os.length:=by have:((t:Nat):Int) < ((os.length:Nat):Int):=h5;omega
    have ht3:t < rows.length:=by omega
    have hh1:=xaO (x:=x) (s:=t) (by omega) (by omega)
    have hh2:=xaO (x:=stop) (s:=t) hst (by omega)
    obtain ⟨r,hr⟩:∃ r,rows[t]=r:=⟨_,rfl⟩
    have hmem:r∈rows:=hr ▸ List.getElem_mem ht3
    have hcr:=h.count r hmem
    obtain ⟨rl,rc⟩:=r
    rcases rl with _ | ⟨ch,rl⟩
    ·simp at hcr
    have hri:(ja (yb rows))[t]? = some [.vs ((ch :: rl).map chV) rc]:=by simp [ja,yb,ht3,hr]
    have hci:((ch :: rl).map chV)[0]? = some [.str ch.a,.str (qt ch.n ch.d),.vs (ch.l.map brV) ch.c]:=rfl
    have hbl:(ch.l.map brV).length=ch.l.length:=by simp
    have htos:xr rows t=ch.l.map (·.to):=by unfold xr;rw [List.getElem?_eq_getElem ht3,hr]
    have hO:=h.chs _ hmem ch (List.mem_cons_self ..)
    cases hb1:x.testBit t with
    | false =>
     rw [hb1] at hh1
     have hsk:jt rows stop x t=x:=by unfold jt;rw [if_neg (by rw [hb1];simp)]
     repeat ((first | refine wa hh1 (wb (.int _ _) (.int _ _)) ?_ | refine ya rfl ?_ | refine ua rfl ?_ | refine And.intro rfl (ub (by omega) ?_) | refine And.intro rfl ?_);conv=>whnf)
     refine ⟨t + 1,by show os.length - (t + 1) < os.length - t;omega,ht,rfl,rfl,rfl,rfl,?_,rfl,?_,trivial⟩
     ·show some (AV.int .u64 ((x:Nat):Int))=some (AV.int .u64 ((qi rows stop (je rows stop s i) (t + 1):Nat):Int))
      rw [hstep,hsk]
     ·show some (AV.int .i64 _)=some (AV.int .i64 _)
      congr 2
    | true =>
     rw [hb1] at hh1
     cases hb2:stop.testBit t with
     | true =>
      rw [hb2] at hh2
      have hsk:jt rows stop x t=x:=by unfold jt;rw [if_neg (by rw [hb2];simp)]
      repeat ((first | refine wa hh1 (wb (.int _ _) (.int _ _)) ?_ | refine wa hh2 (wb (.int _ _) (.int _ _)) ?_ | refine ya rfl ?_ | refine ua rfl ?_ | refine And.intro rfl (ub (by omega) ?_) | refine And.intro rfl ?_);conv=>whnf)
      refine ⟨t + 1,by show os.length - (t + 1) < os.length - t;omega,ht,rfl,rfl,rfl,rfl,?_,rfl,?_,trivial⟩
      ·show some (AV.int .u64 ((x:Nat):Int))=some (AV.int .u64 ((qi rows stop (je rows stop s i) (t + 1):Nat):Int))
       rw [hstep,hsk]
      ·show some (AV.int .i64 _)=some (AV.int .i64 _)
       congr 2
     | false =>
      rw [hb2] at hh2
      have hgo:jt rows stop x t=(ch.l.map (·.to)).foldl xn x:=by unfold jt;rw [if_pos ⟨hb1,hb2⟩,htos]
      repeat ((first | refine wa hh1 (wb (.int _ _) (.int _ _)) ?_ | refine wa hh2 (wb (.int _ _) (.int _ _)) ?_ | refine ya rfl ?_ | refine ua rfl ?_ | refine And.intro rfl ?_);conv=>whnf)
      refine gf yd mixed 65 (fun b:Nat=>ch.l.length - b) (fun b=>b≤ch.l.length)
       (fun b=>[(2,.int .u64 ((stop:Nat):Int)),(3,.ptr 0 0 0),(7,.int .u64 ((((ch.l.take b).map (·.to)).foldl xn x:Nat):Int)),(8,.int .i64 ((i:Nat):Int)),(9,.int .i64 ((t:Nat):Int)),(10,.int .i64 ((b:Nat):Int))]) (fun _=>⟨[some (.rows [ye os oc rows cc] false false)],[]⟩) ?_ 0 _ (Nat.zero_le _) rfl rfl ⟨rfl,rfl,rfl,rfl,rfl,rfl,trivial⟩
      rintro b g3 b1
      replace b1:b≤ch.l.length:=b1
      conv=>whnf
      repeat ((first | refine za rfl ?_ | refine uc t rfl hri rfl ?_ | refine uc 0 rfl hci rfl ?_ | refine qc hbl ?_ | refine And.intro rfl ?_);conv=>whnf)
      refine yf (fun h6 => ?_) (fun h6 => ?_) <;> conv=>whnf
      ·have hb:b < ch.l.length:=by have:((b:Nat):Int) < ((ch.l.length:Nat):Int):=h6;omega
       obtain ⟨br,hbr⟩:∃ br,ch.l[b]=br:=⟨_,rfl⟩
       have hbi:(ch.l.map brV)[b]? = some [.int .i64 ((br.to:Nat):Int),.str br.p]:=by simp [hb,hbr,brV]
       have hbl2:=hO.brs.len
       have hto:=hO.brs.lt br (hbr ▸ List.getElem_mem hb)
       have hyl:((ch.l.take b).map (·.to)).foldl xn x < 2 ^ os.length:=yaX _ _ hP fun c hc=>by
        obtain ⟨y,hy,rfl⟩:=List.mem_map.1 hc
        exact hO.brs.lt y (List.mem_of_mem_take hy)
       have hnx:((ch.l.take (b + 1)).map (·.to)).foldl xn x=xn (((ch.l.take b).map (·.to)).foldl xn x) br.to:=by
        rw [List.take_succ_eq_append_getElem hb,hbr,List.map_append,List.foldl_append];rfl
       have hadd:=zx (((ch.l.take b).map (·.to)).foldl xn x) br.to (by omega) (by omega)
       repeat ((first | refine za rfl ?_ | refine uc t rfl hri rfl ?_ | refine uc 0 rfl hci rfl ?_ | refine uc b rfl hbi rfl ?_ | refine And.intro (Int.natCast_nonneg br.to) ?_ | refine And.intro rfl (ub (by omega) ?_) | refine And.intro rfl ?_);conv=>whnf)
       refine ⟨b + 1,by show ch.l.length - (b + 1) < ch.l.length - b;omega,hb,rfl,rfl,rfl,rfl,?_,rfl,rfl,?_,trivial⟩
       ·show some (AV.int .u64 _)=some (AV.int .u64 ((((ch.l.take (b + 1)).map (·.to)).foldl xn x:Nat):Int))
        rw [hnx]
        exact congrArg (fun z=>some (AV.int .u64 z)) hadd
       ·show some (AV.int .i64 _)=some (AV.int .i64 _)
        congr 2
      ·have hb:¬ ((b:Nat):Int) < ((ch.l.length:Nat):Int):=h6
       obtain rfl:b=ch.l.length:=by omega
       repeat ((first | refine And.intro rfl (ub (by omega) ?_) | refine And.intro rfl ?_);conv=>whnf)
       refine ⟨t + 1,by show os.length - (t + 1) < os.length - t;omega,ht,rfl,rfl,rfl,rfl,?_,rfl,?_,trivial⟩
       ·show some (AV.int .u64 ((((ch.l.take ch.l.length).map (·.to)).foldl xn x:Nat):Int))=some (AV.int .u64 ((qi rows stop (je rows stop s i) (t + 1):Nat):Int))
        rw [hstep,hgo,List.take_length]
       ·show some (AV.int .i64 _)=some (AV.int .i64 _)
        congr 2
   ·have ht:¬ ((t:Nat):Int) < ((os.length:Nat):Int):=h5
    obtain rfl:t=os.length:=by omega
    repeat ((first | refine And.intro rfl (ub (by omega) ?_) | refine And.intro rfl ?_);conv=>whnf)
    refine ⟨i + 1,by show os.length - (i + 1) < os.length - i;omega,hi,rfl,rfl,rfl,rfl,?_,?_,trivial⟩
    ·show some (AV.int .u64 ((x:Nat):Int))=some (AV.int .u64 ((qi rows stop (je rows stop s i) rows.length:Nat):Int))
     rw [hw,hx]
    ·show some (AV.int .i64 _)=some (AV.int .i64 _)
     congr 2
  ·have hi:¬ ((i:Nat):Int) < ((os.length:Nat):Int):=h4
   obtain rfl:i=os.length:=by omega
   repeat ((first | refine And.intro rfl ?_);conv=>whnf)
   exact .pure _ (.int _ _)
 ·show some (AV.int .u64 (IntKind.u64.wrap (1 * 2 ^ (min ((s:Nat):Int).toNat IntKind.u64.bits))))=some (AV.int .u64 ((2 ^ s:Nat):Int))
  have hp:2 ^ s < 18446744073709551616:=Nat.lt_of_lt_of_le (Nat.pow_lt_pow_right (by decide:1 < 2) (show s < 64 by omega)) (by decide)
  have hb:IntKind.u64.bits=64:=rfl
  rw [hb,Int.toNat_natCast,Nat.min_eq_left (by omega)]
  have e1:(1:Int) * 2 ^ s=((2 ^ s:Nat):Int):=by push_cast;omega
  rw [e1,jB _ hp]
end
end Go.Abs

namespace Go.Abs
noncomputable section
open Go.Proofs
set_option maxRecDepth 100000
end
end Go.Abs

namespace Go.Abs
noncomputable section
open Go.Proofs
set_option maxRecDepth 100000
def Dr.first (d:Dr) (s:Nat):List Ch × Option Nat:=((d.row s).1.take 1,some 1)
end
end Go.Abs

namespace Go.Abs
noncomputable section
open Go.Proofs
set_option maxRecDepth 100000
theorem yK (a b:Nat) (ha:a < 18446744073709551616) (hb:b < 18446744073709551616):IntKind.u64.wrap ((BitVec.ofInt IntKind.u64.bits (a:Int) &&& BitVec.ofInt IntKind.u64.bits (b:Int)).toNat)=((a &&& b:Nat):Int):=by
 have h64:IntKind.u64.bits=64:=rfl
 rw [h64,BitVec.ofInt_natCast,BitVec.ofInt_natCast,BitVec.toNat_and,BitVec.toNat_ofNat,BitVec.toNat_ofNat,Nat.mod_eq_of_lt ha,Nat.mod_eq_of_lt hb]
 exact jB _ (Nat.lt_of_le_of_lt Nat.and_le_left ha)
theorem jbE (b n:Nat):Sub (b &&& qb n) (qb n):=fun i h=>by
 rw [Nat.testBit_and] at h
 simp only [Bool.and_eq_true] at h
 exact h.2
theorem qb9 {n b:Nat} (hn:n < 64) (hb:b < 65536):zb Tryz.prog 8 [.int .i64 ((n:Nat):Int),.int .u16 ((b:Nat):Int)] (.int .u64 ((b &&& qb n:Nat):Int)):=by
 have hall:=gaW n hn
 have hlt:=yax n hn
 refine yc (wb (.int _ _) (.int _ _)) (.int _ _) (jb yd mixed Tryz.func8 rfl (by decide +kernel) ?_)
 conv=>whnf
 repeat ((first | refine And.intro (Int.natCast_nonneg n) ?_ | refine And.intro rfl (zi (qb n) hall (jB _ hlt) ?_) | refine And.intro rfl (gaY (by omega) ?_) | refine gaY (by omega) ?_ | refine And.intro rfl ?_);conv=>whnf)
 rw [yK b (qb n) (by omega) hlt]
 exact .pure _ (.int _ _)
end
end Go.Abs

namespace Go.Abs
noncomputable section
open Go.Proofs
set_option maxRecDepth 100000
def uf (f:Nat→Bool):Nat→Nat
 | 0=>0
 | s + 1=>if f s=true then xn (uf f s) s else uf f s
theorem yaC (f:Nat→Bool):∀ k,uf f k < 2 ^ k
 | 0=>by show 0 < 1;decide
 | k + 1=>by
  have h:=Nat.lt_trans (yaC f k) (Nat.pow_lt_pow_right (by decide:1 < 2) (Nat.lt_succ_self k))
  unfold uf
  split
  ·exact uby h (Nat.lt_succ_self k)
  ·exact h
theorem jaa (f:Nat→Bool):∀ (k s:Nat),(uf f k).testBit s=(decide (s < k) && f s)
 | 0,s=>by simp [uf]
 | k + 1,s=>by
  unfold uf
  have ih:=jaa f k s
  by_cases h:f k=true
  ·rw [if_pos h]
   unfold xn
   rw [Nat.testBit_or,ih,Nat.testBit_two_pow]
   by_cases e:k=s
   ·subst e;simp [h]
   ·have:(s < k + 1)↔(s < k):=by omega
    simp [e,this]
  ·rw [if_neg h,ih]
   by_cases e:k=s
   ·subst e;simp [h]
   ·have:(s < k + 1)↔(s < k):=by omega
    simp [this]
def vg (n:Nat) (rows:List (List Ch × Option Nat)) (target s:Nat):Bool:=je rows target s n &&& target != 0
def xy (n:Nat) (rows:List (List Ch × Option Nat)) (target s:Nat):Nat→Bool
 | 0=>true
 | t + 1=>xy n rows target s t && !((je rows target s n).testBit t && !(vg n rows target t))
def xl (n:Nat) (rows:List (List Ch × Option Nat)) (target s:Nat):Bool:=xy n rows target s n
theorem qaZ (f:Nat→Bool) {s:Nat} (hs:s < 12):IntKind.u64.wrap ((BitVec.ofInt IntKind.u64.bits (((uf f s:Nat)):Int) ||| BitVec.ofInt IntKind.u64.bits (IntKind.u64.wrap (1 * 2 ^ (min ((s:Nat):Int).toNat IntKind.u64.bits)))).toNat)=((xn (uf f s) s:Nat):Int) :=
 zx _ s (Nat.lt_of_lt_of_le (yaC f s) (Nat.pow_le_pow_right (by decide:0 < 2) (by omega:s≤64))) (by omega)
set_option maxHeartbeats 4000000 in
theorem za9 {os:List Nat} {oc cc:Option Nat} {rows:List (List Ch × Option Nat)} {target:Nat} (h:ModOK os rows) (hst:target < 18446744073709551616) :
  zb Tryz.prog 36 [.agg (ye os oc rows cc),.int .u64 ((target:Nat):Int)] (.int .u64 ((uf (vg os.length rows target) os.length:Nat):Int)):=by
 have hs0:=h.states
 have hlo:(osV os).length=os.length:=by simp [osV]
 have big:2 ^ os.length < 18446744073709551616:=Nat.lt_of_lt_of_le (Nat.pow_lt_pow_right (by decide:1 < 2) (show os.length < 64 by omega)) (by decide)
 refine yc (wb (zk ..) (.int _ _)) (.int _ _) (jb yd mixed Tryz.func36 rfl (by decide +kernel) ?_)
 conv=>whnf
 repeat ((first | refine And.intro ⟨rfl,by decide,rfl⟩ ?_ | refine And.intro rfl ?_);conv=>whnf)
 refine gf yd mixed 26 (fun s:Nat=>os.length - s) (fun s=>s≤os.length)
  (fun s=>[(1,.int .u64 ((target:Nat):Int)),(2,.ptr 0 0 0),(5,.int .u64 ((uf (vg os.length rows target) s:Nat):Int)),(6,.int .i64 ((s:Nat):Int))]) (fun _=>⟨[some (.rows [ye os oc rows cc] false false)],[]⟩) ?_ 0 _ (Nat.zero_le _) rfl rfl ⟨rfl,rfl,rfl,rfl,trivial⟩
 rintro s g1 i1
 replace i1:s≤os.length:=i1
 conv=>whnf
 repeat ((first | refine za rfl ?_ | refine qc hlo ?_ | refine And.intro rfl ?_);conv=>whnf)
 refine yf (fun h4 => ?_) (fun h4 => ?_) <;> conv=>whnf
 ·have hs:s < os.length:=by have:((s:Nat):Int) < ((os.length:Nat):Int):=h4;omega
  have hfr:=qaO (oc:=oc) (cc:=cc) h hs hst
  have hlt:=jZ h hs (stop:=target) os.length
  have ha:=yK (je rows target s os.length) target (by omega) hst
  repeat ((first | refine za rfl ?_ | refine wa hfr (jx (zk ..) (.int _ _) (.int _ _)) ?_ | refine And.intro rfl ?_);conv=>whnf)
  rw [ha]
  have hb:(((je rows target s os.length &&& target:Nat):Int) != 0)=vg os.length rows target s:=by
   unfold vg
   by_cases e:je rows target s os.length &&& target=0
   ·rw [e];rfl
   ·rw [bne_iff_ne.2 e,bne_iff_ne.2 (by omega)]
  cases hp:vg os.length rows target s with
  | true =>
   rw [hp] at hb
   have hnx:uf (vg os.length rows target) (s + 1)=xn (uf (vg os.length rows target) s) s:=by rw [uf,if_pos hp]
   refine ua hb ?_
   conv=>whnf
   repeat ((first | refine And.intro (Int.natCast_nonneg s) ?_ | refine And.intro rfl (ub (by omega) ?_) | refine And.intro rfl ?_);conv=>whnf)
   refine ⟨s + 1,by show os.length - (s + 1) < os.length - s;omega,hs,rfl,rfl,rfl,rfl,?_,?_,trivial⟩
   ·show some (AV.int .u64 _)=some (AV.int .u64 ((uf (vg os.length rows target) (s + 1):Nat):Int))
    rw [hnx]
    exact congrArg (fun z=>some (AV.int .u64 z)) (qaZ _ (by omega))
   ·show some (AV.int .i64 _)=some (AV.int .i64 _)
    congr 2
  | false =>
   rw [hp] at hb
   have hnx:uf (vg os.length rows target) (s + 1)=uf (vg os.length rows target) s:=by rw [uf,if_neg (by rw [hp];simp)]
   refine ya hb ?_
   conv=>whnf
   repeat ((first | refine And.intro rfl (ub (by omega) ?_) | refine And.intro rfl ?_);conv=>whnf)
   refine ⟨s + 1,by show os.length - (s + 1) < os.length - s;omega,hs,rfl,rfl,rfl,rfl,?_,?_,trivial⟩
   ·show some (AV.int .u64 _)=some (AV.int .u64 ((uf (vg os.length rows target) (s + 1):Nat):Int))
    rw [hnx]
   ·show some (AV.int .i64 _)=some (AV.int .i64 _)
    congr 2
 ·have hs:¬ ((s:Nat):Int) < ((os.length:Nat):Int):=h4
  obtain rfl:s=os.length:=by omega
  repeat ((first | refine And.intro rfl ?_);conv=>whnf)
  exact .pure _ (.int _ _)
set_option maxHeartbeats 4000000 in
theorem xbu {os:List Nat} {oc cc:Option Nat} {rows:List (List Ch × Option Nat)} {target:Nat} (h:ModOK os rows) (hst:target < 18446744073709551616) :
  zb Tryz.prog 37 [.agg (ye os oc rows cc),.int .u64 ((target:Nat):Int)] (.int .u64 ((uf (xl os.length rows target) os.length:Nat):Int)):=by
 have hs0:=h.states
 have hlo:(osV os).length=os.length:=by simp [osV]
 have big:2 ^ os.length < 18446744073709551616:=Nat.lt_of_lt_of_le (Nat.pow_lt_pow_right (by decide:1 < 2) (show os.length < 64 by omega)) (by decide)
 refine yc (wb (zk ..) (.int _ _)) (.int _ _) (jb yd mixed Tryz.func37 rfl (by decide +kernel) ?_)
 conv=>whnf
 repeat ((first | refine And.intro ⟨rfl,by decide,rfl⟩ ?_ | refine And.intro rfl ?_);conv=>whnf)
 refine gf yd mixed 46 (fun s:Nat=>os.length - s) (fun s=>s≤os.length)
  (fun s=>[(1,.int .u64 ((target:Nat):Int)),(2,.ptr 0 0 0),(5,.int .u64 ((uf (xl os.length rows target) s:Nat):Int)),(6,.int .i64 ((s:Nat):Int))]) (fun _=>⟨[some (.rows [ye os oc rows cc] false false)],[]⟩) ?_ 0 _ (Nat.zero_le _) rfl rfl ⟨rfl,rfl,rfl,rfl,trivial⟩
 rintro s g1 i1
 replace i1:s≤os.length:=i1
 conv=>whnf
 repeat ((first | refine za rfl ?_ | refine qc hlo ?_ | refine And.intro rfl ?_);conv=>whnf)
 refine yf (fun h4 => ?_) (fun h4 => ?_) <;> conv=>whnf
 ·have hs:s < os.length:=by have:((s:Nat):Int) < ((os.length:Nat):Int):=h4;omega
  have hfr:=qaO (oc:=oc) (cc:=cc) h hs hst
  have hlt:=jZ h hs (stop:=target) os.length
  repeat ((first | refine za rfl ?_ | refine wa hfr (jx (zk ..) (.int _ _) (.int _ _)) ?_ | refine And.intro rfl ?_);conv=>whnf)
  refine gf yd mixed 46 (fun t:Nat=>os.length - t) (fun t=>t≤os.length)
   (fun t=>[(1,.int .u64 ((target:Nat):Int)),(2,.ptr 0 0 0),(5,.int .u64 ((uf (xl os.length rows target) s:Nat):Int)),(6,.int .i64 ((s:Nat):Int)),(7,.int .u64 ((je rows target s os.length:Nat):Int)),(8,.bool (xy os.length rows target s t)),(9,.int .i64 ((t:Nat):Int))]) (fun _=>⟨[some (.rows [ye os oc rows cc] false false)],[]⟩) ?_ 0 _ (Nat.zero_le _) rfl rfl ⟨rfl,rfl,rfl,rfl,rfl,rfl,rfl,trivial⟩
  rintro t g2 t1
  replace t1:t≤os.length:=t1
  conv=>whnf
  repeat ((first | refine za rfl ?_ | refine qc hlo ?_ | refine And.intro rfl ?_);conv=>whnf)
  refine yf (fun h5 => ?_) (fun h5 => ?_) <;> conv=>whnf
  ·have ht:t < os.length:=by have:((t:Nat):Int) < ((os.length:Nat):Int):=h5;omega
   have hh:=xaO (x:=je rows target s os.length) (s:=t) (by omega) (by omega)
   have hft:=qaO (oc:=oc) (cc:=cc) h ht hst
   have hlt2:=jZ h ht (stop:=target) os.length
   have ha:=yK (je rows target t os.length) target (by omega) hst
   have hb:(((je rows target t os.length &&& target:Nat):Int) == 0) = !(vg os.length rows target t):=by
    unfold vg
    by_cases e:je rows target t os.length &&& target=0
    ·rw [e];rfl
    ·rw [bne_iff_ne.2 e,beq_eq_false_iff_ne.2 (by omega)];rfl
   have hcu:xy os.length rows target s (t + 1)=(xy os.length rows target s t && !((je rows target s os.length).testBit t && !(vg os.length rows target t))):=rfl
   cases hx:(je rows target s os.length).testBit t with
   | false =>
    rw [hx] at hh hcu
    repeat ((first | refine wa hh (wb (.int _ _) (.int _ _)) ?_ | refine ya rfl ?_ | refine And.intro rfl (ub (by omega) ?_) | refine And.intro rfl ?_);conv=>whnf)
    refine ⟨t + 1,by show os.length - (t + 1) < os.length - t;omega,ht,rfl,rfl,rfl,rfl,rfl,rfl,rfl,?_,?_,trivial⟩
    ·show some (AV.bool _)=some (AV.bool (xy os.length rows target s (t + 1)))
     rw [hcu];simp
    ·show some (AV.int .i64 _)=some (AV.int .i64 _)
     congr 2
   | true =>
    rw [hx] at hh hcu
    repeat ((first | refine za rfl ?_ | refine wa hh (wb (.int _ _) (.int _ _)) ?_ | refine wa hft (jx (zk ..) (.int _ _) (.int _ _)) ?_ | refine ua rfl ?_ | refine And.intro rfl ?_);conv=>whnf)
    rw [ha,hb]
    cases hp:vg os.length rows target t with
    | true =>
     rw [hp] at hcu
     refine ya rfl ?_
     conv=>whnf
     repeat ((first | refine And.intro rfl (ub (by omega) ?_) | refine And.intro rfl ?_);conv=>whnf)
     refine ⟨t + 1,by show os.length - (t + 1) < os.length - t;omega,ht,rfl,rfl,rfl,rfl,rfl,rfl,rfl,?_,?_,trivial⟩
     ·show some (AV.bool _)=some (AV.bool (xy os.length rows target s (t + 1)))
      rw [hcu];simp
     ·show some (AV.int .i64 _)=some (AV.int .i64 _)
      congr 2
    | false =>
     rw [hp] at hcu
     refine ua rfl ?_
     conv=>whnf
     repeat ((first | refine And.intro rfl (ub (by omega) ?_) | refine And.intro rfl ?_);conv=>whnf)
     refine ⟨t + 1,by show os.length - (t + 1) < os.length - t;omega,ht,rfl,rfl,rfl,rfl,rfl,rfl,rfl,?_,?_,trivial⟩
     ·show some (AV.bool _)=some (AV.bool (xy os.length rows target s (t + 1)))
      rw [hcu];simp
     ·show some (AV.int .i64 _)=some (AV.int .i64 _)
      congr 2
  ·have ht:¬ ((t:Nat):Int) < ((os.length:Nat):Int):=h5
   obtain rfl:t=os.length:=by omega
   cases hc:xy os.length rows target s os.length with
   | true =>
    have hnx:uf (xl os.length rows target) (s + 1)=xn (uf (xl os.length rows target) s) s:=by rw [uf,if_pos (show xl os.length rows target s=true from hc)]
    repeat ((first | refine ua rfl ?_ | refine And.intro (Int.natCast_nonneg s) ?_ | refine And.intro rfl (ub (by omega) ?_) | refine And.intro rfl ?_);conv=>whnf)
    refine ⟨s + 1,by show os.length - (s + 1) < os.length - s;omega,hs,rfl,rfl,rfl,rfl,?_,?_,trivial⟩
    ·show some (AV.int .u64 _)=some (AV.int .u64 ((uf (xl os.length rows target) (s + 1):Nat):Int))
     rw [hnx]
     exact congrArg (fun z=>some (AV.int .u64 z)) (qaZ _ (by omega))
    ·show some (AV.int .i64 _)=some (AV.int .i64 _)
     congr 2
   | false =>
    have hnx:uf (xl os.length rows target) (s + 1)=uf (xl os.length rows target) s:=by
     rw [uf,if_neg (show ¬ xl os.length rows target s=true by show ¬ xy os.length rows target s os.length=true;rw [hc];simp)]
    repeat ((first | refine ya rfl ?_ | refine And.intro rfl (ub (by omega) ?_) | refine And.intro rfl ?_);conv=>whnf)
    refine ⟨s + 1,by show os.length - (s + 1) < os.length - s;omega,hs,rfl,rfl,rfl,rfl,?_,?_,trivial⟩
    ·show some (AV.int .u64 _)=some (AV.int .u64 ((uf (xl os.length rows target) (s + 1):Nat):Int))
     rw [hnx]
    ·show some (AV.int .i64 _)=some (AV.int .i64 _)
     congr 2
 ·have hs:¬ ((s:Nat):Int) < ((os.length:Nat):Int):=h4
  obtain rfl:s=os.length:=by omega
  repeat ((first | refine And.intro rfl ?_);conv=>whnf)
  exact .pure _ (.int _ _)
end
end Go.Abs

namespace Go.Abs
noncomputable section
open Go.Proofs
set_option maxRecDepth 100000
theorem xaX (x b i:Nat):(xn x b).testBit i=(x.testBit i || decide (b=i)):=by
 unfold xn
 rw [Nat.testBit_or,Nat.testBit_two_pow]
theorem zaX:∀ (l:List Nat) (x:Nat),Sub x (l.foldl xn x)
 | [],_=>Sub.rfl'
 | b :: l,x=>Sub.trans (fun i h=>by rw [xaX,h];rfl) (zaX l (xn x b))
theorem wby:∀ (l:List Nat) (x:Nat),∀ b∈l,(l.foldl xn x).testBit b=true
 | a :: l,x,b,h=>by
  rcases List.mem_cons.1 h with rfl | h
  ·exact zaX l _ _ (by rw [xaX];simp)
  ·exact wby l _ b h
theorem vby:∀ (l:List Nat) (x:Nat) (i:Nat),(l.foldl xn x).testBit i=true→x.testBit i=true∨i∈l
 | [],_,_,h=>.inl h
 | b :: l,x,i,h=>by
  rcases vby l _ i h with h | h
  ·rw [xaX,Bool.or_eq_true] at h
   rcases h with h | h
   ·exact .inl h
   ·exact .inr (by simp at h;simp [h])
  ·exact .inr (List.mem_cons_of_mem _ h)
section from_
variable {R:List (List Ch × Option Nat)} {stop:Nat}
theorem xb6 (x t:Nat):Sub x (jt R stop x t):=by
 unfold jt
 split
 ·exact zaX _ _
 ·exact Sub.rfl'
theorem yaP (x:Nat):∀ t k,Sub (qi R stop x t) (qi R stop x (t + k))
 | _,0=>Sub.rfl'
 | t,k + 1=>(yaP x t k).trans (xb6 _ _)
theorem zaP (x t:Nat):Sub x (qi R stop x t):=by have:=yaP (R:=R) (stop:=stop) x 0 t;rwa [Nat.zero_add] at this
theorem yb7 {x:Nat} (h:qi R stop x R.length=x) {t u:Nat} (ht:x.testBit t=true) (hs:stop.testBit t=false) (hu:u∈xr R t):x.testBit u=true:=by
 have htl:t < R.length:=by
  rcases Nat.lt_or_ge t R.length with h | h
  ·exact h
  ·unfold xr at hu;rw [List.getElem?_eq_none h] at hu;cases hu
 have h1:=zaP (R:=R) (stop:=stop) x t t ht
 have h2:(qi R stop x (t + 1)).testBit u=true:=by
  show (jt R stop (qi R stop x t) t).testBit u=true
  unfold jt
  rw [if_pos ⟨h1,hs⟩]
  exact wby _ _ u hu
 have h3:=yaP (R:=R) (stop:=stop) x (t + 1) (R.length - (t + 1)) u h2
 rwa [show t + 1 + (R.length - (t + 1))=R.length by omega,h] at h3
theorem xat {Z:Nat→Prop} (hZ:∀ t,Z t→stop.testBit t=false→∀ u∈xr R t,Z u) {x:Nat} (hx:∀ t,x.testBit t=true→Z t):∀ k t,(qi R stop x k).testBit t=true→Z t
 | 0,t,h=>hx t h
 | k + 1,t,h=>by
  have h:(jt R stop (qi R stop x k) k).testBit t=true:=h
  unfold jt at h
  split at h
  ·rename_i hc
   rcases vby _ _ _ h with h | h
   ·exact xat hZ hx k t h
   ·exact hZ k (xat hZ hx k k hc.1) hc.2 t h
  ·exact xat hZ hx k t h
theorem qas {Z:Nat→Prop} (hZ:∀ t,Z t→stop.testBit t=false→∀ u∈xr R t,Z u) {s:Nat} (hs:Z s):∀ i t,(je R stop s i).testBit t=true→Z t
 | 0,t,h=>by
  have h:(2 ^ s).testBit t=true:=h
  rw [Nat.testBit_two_pow] at h
  have:s=t:=by simpa using h
  exact this ▸ hs
 | i + 1,t,h=>xat hZ (qas hZ hs i) _ t h
theorem jas {s:Nat}:∀ i,(je R stop s i).testBit s=true
 | 0=>by show (2 ^ s).testBit s=true;rw [Nat.testBit_two_pow];simp
 | i + 1=>zaP _ _ s (jas i)
end from_
theorem jba {x y:Nat} (h:Sub x y):∀ k s,yk y s k≤yk x s k
 | 0,_=>Nat.le_refl _
 | k + 1,s=>by
  unfold yk
  have:=jba h k (s + 1)
  cases hx:x.testBit s with
  | true=>rw [h s hx];simpa using this
  | false=>split <;> simp <;> omega
theorem waH {x y t:Nat} (h:Sub x y) (hy:y.testBit t=true) (hx:x.testBit t=false):∀ k s,s≤t→t < s + k→yk y s k < yk x s k
 | 0,s,h1,h2=>by omega
 | k + 1,s,h1,h2=>by
  unfold yk
  by_cases e:s=t
  ·subst e
   rw [hy,hx]
   have:=jba h k (s + 1)
   simp;omega
  ·have:=waH h hy hx k (s + 1) (by omega) (by omega)
   cases hxs:x.testBit s with
   | true=>rw [h s hxs];simpa using this
   | false=>split <;> simp <;> omega
theorem ubE {n x y:Nat} (h:Sub x y) (hy:y < 2 ^ n) (hne:y≠x):yk y 0 n < yk x 0 n:=by
 obtain ⟨t,ht⟩:∃ t,y.testBit t=true∧x.testBit t=false:=by
  rcases Classical.em (∃ t,y.testBit t=true∧x.testBit t=false) with h' | h'
  ·exact h'
  ·refine absurd (Sub.anti (fun t ht => ?_) h) hne
   cases hx:x.testBit t with
   | true=>rfl
   | false=>exact absurd ⟨t,ht,hx⟩ h'
 have htn:t < n:=by
  rcases Nat.lt_or_ge t n with h' | h'
  ·exact h'
  ·rw [Nat.testBit_lt_two_pow (Nat.lt_of_lt_of_le hy (Nat.pow_le_pow_right (by decide) h'))] at ht;exact absurd ht.1 (by simp)
 exact waH h ht.1 ht.2 n 0 (Nat.zero_le _) (by omega)
theorem gbn {os:List Nat} {R:List (List Ch × Option Nat)} {stop s:Nat} (h:ModOK os R) (hs:s < os.length):∀ i,qi R stop (je R stop s i) R.length=je R stop s i∨yk (je R stop s i) 0 os.length + i + 1≤os.length
 | 0=>by
  right
  have h1:(2 ^ s).testBit s=true:=by rw [Nat.testBit_two_pow];simp
  have h2:=waH (x:=0) (y:=2 ^ s) (t:=s) (fun i h=>by simp at h) h1 (by simp) os.length 0 (Nat.zero_le _) (by omega)
  have h3:=uQ 0 os.length 0
  show yk (2 ^ s) 0 os.length + 0 + 1≤_
  omega
 | i + 1=>by
  rcases gbn h hs (stop:=stop) i with e | e
  ·left
   show qi R stop (qi R stop (je R stop s i) R.length) R.length=qi R stop (je R stop s i) R.length
   rw [e,e]
  ·by_cases hx:qi R stop (je R stop s (i + 1)) R.length=je R stop s (i + 1)
   ·exact .inl hx
   ·right
    by_cases hy:qi R stop (je R stop s i) R.length=je R stop s i
    ·exfalso
     apply hx
     show qi R stop (qi R stop (je R stop s i) R.length) R.length=qi R stop (je R stop s i) R.length
     rw [hy,hy]
    ·have:=ubE (zaP (R:=R) (stop:=stop) (je R stop s i) R.length) (jZ h hs (stop:=stop) (i + 1)) hy
     show yk (qi R stop (je R stop s i) R.length) 0 os.length + (i + 1) + 1≤_
     omega
theorem zbo {os:List Nat} {R:List (List Ch × Option Nat)} {stop s t u:Nat} (h:ModOK os R) (hs:s < os.length) (ht:(je R stop s os.length).testBit t=true) (hst:stop.testBit t=false) (hu:u∈xr R t):(je R stop s os.length).testBit u=true:=by
 refine yb7 ?_ ht hst hu
 rcases gbn h hs (stop:=stop) os.length with e | e
 ·exact e
 ·omega
theorem zch {x y:Nat}:(x &&& y != 0)=true↔∃ i,x.testBit i=true∧y.testBit i=true:=by
 rw [bne_iff_ne]
 constructor
 ·intro h
  rcases Classical.em (∃ i,x.testBit i=true∧y.testBit i=true) with h' | h'
  ·exact h'
  ·refine absurd (Nat.eq_of_testBit_eq fun i => ?_) h
   rw [Nat.testBit_and,Nat.zero_testBit]
   cases hx:x.testBit i with
   | false=>rfl
   | true=>cases hy:y.testBit i with
    | false=>rfl
    | true=>exact absurd ⟨i,hx,hy⟩ h'
 ·rintro ⟨i,h1,h2⟩ e
  have:(x &&& y).testBit i=true:=by rw [Nat.testBit_and,h1,h2];rfl
  rw [e] at this;simp at this
section chain
variable {os:List Nat} {R:List (List Ch × Option Nat)} {T:Nat} (h:ModOK os R)
theorem poss_iff {s:Nat}:vg os.length R T s=true↔∃ t,(je R T s os.length).testBit t=true∧T.testBit t=true:=zch
theorem xa9 {s:Nat} (hs:T.testBit s=true):vg os.length R T s=true:=poss_iff.2 ⟨s,jas _,hs⟩
include h
theorem qbn {s u:Nat} (hs:s < os.length) (hT:T.testBit s=false) (hu:u∈xr R s):Sub (je R T u os.length) (je R T s os.length):=fun t ht =>
 qas (Z:=fun t=>(je R T s os.length).testBit t=true) (fun _ h1 h2 _ h3=>zbo h hs h1 h2 h3) (zbo h hs (jas _) hT hu) os.length t ht
theorem wbP {s u:Nat} (hs:s < os.length) (hT:T.testBit s=false) (hu:u∈xr R s) (hp:vg os.length R T u=true):vg os.length R T s=true:=by
 obtain ⟨t,h1,h2⟩:=poss_iff.1 hp
 exact poss_iff.2 ⟨t,qbn h hs hT hu t h1,h2⟩
omit h in
theorem ya9 {Z:Nat→Prop} (hZ:∀ t,Z t→T.testBit t=false→∀ u∈xr R t,Z u) (hd:∀ t,Z t→T.testBit t=false) {s:Nat} (hs:Z s):vg os.length R T s=false:=by
 cases hp:vg os.length R T s with
 | false=>rfl
 | true =>
  obtain ⟨t,h1,h2⟩:=poss_iff.1 hp
  rw [hd t (qas hZ hs _ t h1)] at h2;cases h2
omit h in
theorem vbu {s:Nat}:∀ k,xy os.length R T s k=true↔∀ t,t < k→(je R T s os.length).testBit t=true→vg os.length R T t=true
 | 0=>by simp [xy]
 | k + 1=>by
  unfold xy
  rw [Bool.and_eq_true,vbu k]
  constructor
  ·rintro ⟨h1,h2⟩ t ht hf
   rcases Nat.lt_or_ge t k with h' | h'
   ·exact h1 t h' hf
   ·have:t=k:=by omega
    subst this
    rw [hf] at h2
    cases hp:vg os.length R T t with
    | true=>rfl
    | false=>rw [hp] at h2;cases h2
  ·intro h1
   refine ⟨fun t ht=>h1 t (by omega),?_⟩
   cases hf:(je R T s os.length).testBit k with
   | false=>rfl
   | true=>rw [h1 k (by omega) hf];rfl
omit h in
theorem cert_iff {s:Nat}:xl os.length R T s=true↔∀ t,t < os.length→(je R T s os.length).testBit t=true→vg os.length R T t=true:=vbu _
omit h in
theorem jcc {Z:Nat→Prop} (hZ:∀ t,Z t→T.testBit t=false→∀ u∈xr R t,Z u) (hd:∀ t,Z t→vg os.length R T t=true) {s:Nat} (hs:Z s):xl os.length R T s=true :=
 cert_iff.2 fun t _ hf=>hd t (qas hZ hs _ t hf)
theorem wbu {s u:Nat} (hs:s < os.length) (hT:T.testBit s=false) (hu:u∈xr R s) (hc:xl os.length R T s=true):xl os.length R T u=true :=
 cert_iff.2 fun t ht hf=>cert_iff.1 hc t ht (qbn h hs hT hu t hf)
omit h in
theorem ucc {s:Nat} (hs:s < os.length) (hc:xl os.length R T s=true):vg os.length R T s=true:=cert_iff.1 hc s hs (jas _)
end chain
def chD (rows:List ChR) (d:List Nat) (t:Nat):List AV:=(vk rows t).getD (d.getD t 0) []
theorem w6 (rows:List (List Ch × Option Nat)) (t:Nat):vk (yb rows) t=(zd rows t).map chV:=by
 unfold vk zd yb
 rw [List.getElem?_map]
 cases rows[t]? <;> rfl
theorem wbD (x:Ch):yE (chV x)=x.l.map (·.to):=zaz ⟨_,_,_,rfl⟩
theorem yaa (rows:List (List Ch × Option Nat)) (d:List Nat) (t:Nat):xr (zg rows d) t=yE (chD (yb rows) d t):=by
 unfold chD
 rw [w6,List.getD_eq_getElem?_getD,List.getElem?_map]
 unfold xr zg
 rw [List.getElem?_map]
 rcases Nat.lt_or_ge t rows.length with h | h
 ·rw [List.getElem?_range h]
  show (match (some (uae rows d t):Option (List Ch × Option Nat)) with | some (x :: _,_)=>x.l.map Br.to | _=>[])=_
  unfold uae
  cases (zd rows t)[d.getD t 0]? with
  | none=>rfl
  | some x=>exact (wbD x).symm
 ·have e:zd rows t=[]:=by unfold zd;rw [List.getElem?_eq_none h]
  rw [List.getElem?_eq_none (by simpa using h),e]
  rfl
theorem ybu {os:List Nat} {rows:List (List Ch × Option Nat)} {d:List Nat} (h:ModOK os rows) (hd:StratOK os rows d) {t:Nat} (ht:t < os.length):chD (yb rows) d t∈vk (yb rows) t:=by
 have:=hd.getD h.width ht
 unfold chD
 rw [w6,List.getD_eq_getElem?_getD,List.getElem?_eq_getElem (by simpa using this)]
 exact List.getElem_mem _
end
end Go.Abs

namespace Go.Abs
noncomputable section
open Go.Proofs
set_option maxRecDepth 100000
def qn (rows:List (List Ch × Option Nat)) (s:Nat):Nat:=(vk (yb rows) s).length
theorem wY (rows:List (List Ch × Option Nat)) (s:Nat):qn rows s=(xk rows).getD s 0:=by
 unfold qn xk
 rw [w6,List.length_map,List.getD_eq_getElem?_getD,List.getElem?_map]
 unfold zd
 cases rows[s]? <;> rfl
theorem xY {os:List Nat} {rows:List (List Ch × Option Nat)} (h:ModOK os rows) {s:Nat} (hs:s < os.length):0 < qn rows s:=by
 have hw:=h.width
 have hs':s < rows.length:=by omega
 have:=(h.count _ (List.getElem_mem hs')).1
 unfold qn
 rw [w6,List.length_map,vD hs']
 omega
abbrev cN (rows:List (List Ch × Option Nat)) (s k:Nat):List AV:=(vk (yb rows) s).getD k []
theorem yaU {rows:List (List Ch × Option Nat)} {s:Nat} {ch:List AV} (h:ch∈vk (yb rows) s):∃ k,k < qn rows s∧cN rows s k=ch:=by
 obtain ⟨k,hk,rfl⟩:=List.getElem_of_mem h
 exact ⟨k,hk,by simp [cN,List.getD,hk]⟩
theorem wav {rows:List (List Ch × Option Nat)} {d:List Nat} {t k:Nat} (h:d.getD t 0=k):chD (yb rows) d t=cN rows t k:=by unfold chD;rw [h]
theorem touches_mem {x:Nat} {ch:List AV}:jg x ch=true↔∃ u,u∈yE ch∧x.testBit u=true:=by
 unfold jg;rw [List.any_eq_true]
theorem stays_iff {x:Nat} {ch:List AV}:wn x ch=true↔∀ u∈yE ch,x.testBit u=true:=by
 unfold wn
 rw [Bool.not_eq_true',List.any_eq_false]
 constructor
 ·intro h u hu
  have:=h u hu
  cases hx:x.testBit u with
  | true=>rfl
  | false=>rw [hx] at this;exact absurd rfl this
 ·intro h u hu
  rw [h u hu];simp
theorem zac {os:List Nat} {rows:List ChR} {φ:List AV→Bool} {p x s:Nat} (ho:os.getD s 0=p):wd os rows φ p x s=true↔∃ ch,ch∈vk rows s∧φ ch=true∧jg x ch=true:=by
 unfold wd
 rw [if_pos ho,List.any_eq_true]
 simp only [Bool.and_eq_true]
theorem gab {os:List Nat} {rows:List ChR} {φ:List AV→Bool} {p x s:Nat} (ho:os.getD s 0≠p):wd os rows φ p x s=true↔∀ ch,ch∈vk rows s→φ ch=true∧jg x ch=true:=by
 unfold wd
 rw [if_neg ho,Bool.not_eq_true',List.any_eq_false]
 constructor
 ·intro h ch hc
  have:=h ch hc
  rw [← Bool.and_eq_true]
  simpa using this
 ·intro h ch hc
  have:=h ch hc
  rw [this.1,this.2];simp
theorem zbn {n:Nat} {pl:Nat→Nat→Bool} {P:Nat→Prop} (hs:∀ x t,P x→t < n→x.testBit t=false→pl x t=true→P (x ||| 2 ^ t)):∀ (f x:Nat),P x→P (wg n pl f x)
 | 0,_,h=>h
 | f + 1,x,h=>by
  unfold wg
  split
  ·exact h
  ·rename_i t ht
   obtain ⟨_,h2,h3⟩:=yaf ht
   rw [Bool.and_eq_true] at h3
   exact zbn hs f _ (hs x t h (by omega) (by simpa using h3.1) h3.2)
theorem ybp {F:Nat→Nat} {P:Nat→Prop} (hs:∀ x,P x→P (F x)):∀ (f x:Nat),P x→P (yA F f x)
 | 0,_,h=>h
 | f + 1,x,h=>by
  by_cases e:F x=x
  ·rw [jaP e];exact h
  ·rw [uaP e];exact ybp hs f _ (hs x h)
section game
variable {os:List Nat} {rows:List (List Ch × Option Nat)} {T:Nat} (h:ModOK os rows)
structure Att (os:List Nat) (rows:List (List Ch × Option Nat)) (T:Nat) (φ:List AV→Bool) (p x:Nat) (e:Nat→Nat):Prop where
 lt:∀ s,s < os.length→e s < qn rows s
 sub:Sub x (qb os.length)
 ok:∀ d,StratOK os rows d→(∀ s,s < os.length→os.getD s 0=p→x.testBit s=true→d.getD s 0=e s) →
  ∀ s,x.testBit s=true→vg os.length (zg rows d) T s=true∧(T.testBit s=false→φ (chD (yb rows) d s)=true)
include h
theorem ubx (hT:Sub T (qb os.length)) (φ:List AV→Bool) (p:Nat):∃ e,Att os rows T φ p (wg os.length (wd os (yb rows) φ p) os.length T) e:=by
 refine zbn (P:=fun x=>∃ e,Att os rows T φ p x e) (fun x t ⟨e,he⟩ ht hx hp => ?_) _ _ ⟨fun _=>0,fun s hs=>xY h hs,hT,fun d hd _ s hs=>⟨xa9 hs,fun h=>by rw [hs] at h;cases h⟩⟩
 have hsub:Sub (x ||| 2 ^ t) (qb os.length):=fun i hi=>by
  rw [jL] at hi
  cases hxi:x.testBit i with
  | true=>exact he.sub i hxi
  | false =>
   rw [hxi] at hi
   obtain rfl:t=i:=by simpa using hi
   rw [y8];simp [ht]
 have key:∀ (e':Nat→Nat),(∀ s,s < os.length→e' s < qn rows s)→(∀ s,x.testBit s=true→e' s=e s)→(∀ d,StratOK os rows d→(os.getD t 0=p→d.getD t 0=e' t)→φ (chD (yb rows) d t)=true∧jg x (chD (yb rows) d t)=true)→Att os rows T φ p (x ||| 2 ^ t) e':=fun e' h1 h2 h3=>by
  refine ⟨h1,hsub,fun d hd ha s hs => ?_⟩
  have hmo:=qY h hd
  have old:∀ s,x.testBit s=true→vg os.length (zg rows d) T s=true∧(T.testBit s=false→φ (chD (yb rows) d s)=true):=he.ok d hd fun s hs ho hxs=>by
   rw [← h2 s hxs]
   exact ha s hs ho (by rw [jL,hxs];rfl)
  rw [jL] at hs
  cases hxs:x.testBit s with
  | true=>exact old s hxs
  | false =>
   rw [hxs] at hs
   obtain rfl:t=s:=by simpa using hs
   obtain ⟨q1,q2⟩:=h3 d hd fun ho=>ha t ht ho (by rw [jL];simp)
   refine ⟨?_,fun _=>q1⟩
   cases hTt:T.testBit t with
   | true=>exact xa9 hTt
   | false =>
    obtain ⟨u,hu,hxu⟩:=touches_mem.1 q2
    exact wbP hmo ht hTt (by rw [yaa];exact hu) (old u hxu).1
 by_cases ho:os.getD t 0=p
 ·obtain ⟨ch,hc,hφ,htc⟩:=(zac ho).1 hp
  obtain ⟨k,hk,rfl⟩:=yaU hc
  refine ⟨fun s=>if s=t then k else e s,key _ (fun s hs => ?_) (fun s hs => ?_) fun d hd ha => ?_⟩
  ·show (if s=t then k else e s) < _
   split
   ·rename_i e';rw [e'];exact hk
   ·exact he.lt s hs
  ·exact if_neg fun e'=>by rw [e',hx] at hs;cases hs
  ·have:=ha ho
   rw [if_pos rfl] at this
   rw [wav this]
   exact ⟨hφ,htc⟩
 ·refine ⟨e,key e he.lt (fun _ _=>rfl) fun d hd _=>(gab ho).1 hp _ (ybu h hd ht)⟩
theorem wa9 (hT:Sub T (qb os.length)) (p:Nat):∃ e:Nat→Nat,(∀ s,s < os.length→e s < qn rows s)∧∀ d,StratOK os rows d→(∀ s,s < os.length→os.getD s 0=p→d.getD s 0=e s)→∀ s,(ql os (yb rows) p T).testBit s=true→vg os.length (zg rows d) T s=true:=by
 obtain ⟨e,he⟩:=ubx h hT (fun _=>true) p
 exact ⟨e,he.lt,fun d hd ha s hs=>(he.ok d hd (fun s hs ho _=>ha s hs ho) s hs).1⟩
theorem va9 (hT:Sub T (qb os.length)) (p:Nat):∃ e:Nat→Nat,(∀ s,s < os.length→e s < qn rows s)∧∀ d,StratOK os rows d→(∀ s,s < os.length→os.getD s 0≠p→d.getD s 0=e s)→∀ s,s < os.length→(ql os (yb rows) p T).testBit s=false→vg os.length (zg rows d) T s=false:=by
 have hcl:=was (n:=os.length) (pl:=wd os (yb rows) (fun _=>true) p) os.length T (uQ _ _ _)
 have hX:wg os.length (wd os (yb rows) (fun _=>true) p) os.length T=ql os (yb rows) p T:=rfl
 rw [hX] at hcl
 have hTX:Sub T (ql os (yb rows) p T):=xas _ _
 have hex:∀ s,∃ k,(s < os.length→k < qn rows s)∧(s < os.length→os.getD s 0≠p→(ql os (yb rows) p T).testBit s=false→jg (ql os (yb rows) p T) (cN rows s k)=false):=fun s=>by
  rcases Classical.em (s < os.length∧os.getD s 0≠p∧(ql os (yb rows) p T).testBit s=false) with ⟨h1,h2,h3⟩ | hn
  ·rcases Classical.em (∃ ch,ch∈vk (yb rows) s∧jg (ql os (yb rows) p T) ch=false) with ⟨ch,hc,ht⟩ | hno
   ·obtain ⟨k,hk,rfl⟩:=yaU hc
    exact ⟨k,fun _=>hk,fun _ _ _=>ht⟩
   ·exfalso
    have:=hcl s h1 ((gab h2).2 fun ch hc=>⟨rfl,by
     cases ht:jg (ql os (yb rows) p T) ch with
     | true=>rfl
     | false=>exact absurd ⟨ch,hc,ht⟩ hno⟩)
    rw [h3] at this;cases this
  ·exact ⟨0,fun hs=>xY h hs,fun h1 h2 h3=>absurd ⟨h1,h2,h3⟩ hn⟩
 refine ⟨fun s=>(hex s).choose,fun s hs=>(hex s).choose_spec.1 hs,fun d hd ha s hs hx => ?_⟩
 have hmo:=qY h hd
 refine ya9 (Z:=fun t=>t < os.length∧(ql os (yb rows) p T).testBit t=false) (fun t ⟨ht,hxt⟩ hTt u hu => ?_) (fun t ⟨ht,hxt⟩ => ?_) ⟨hs,hx⟩
 ·refine ⟨hmo.tos t u hu,?_⟩
  rw [yaa] at hu
  cases hxu:(ql os (yb rows) p T).testBit u with
  | false=>rfl
  | true =>
   have htc:jg (ql os (yb rows) p T) (chD (yb rows) d t)=true:=touches_mem.2 ⟨u,hu,hxu⟩
   by_cases ho:os.getD t 0=p
   ·have:=hcl t ht ((zac ho).2 ⟨_,ybu h hd ht,rfl,htc⟩)
    rw [hxt] at this;cases this
   ·have:=(hex t).choose_spec.2 ht ho hxt
    rw [← wav (ha t ht ho),htc] at this;cases this
 ·cases hTt:T.testBit t with
  | false=>rfl
  | true=>rw [hTX t hTt] at hxt;cases hxt
theorem xbE (hT:Sub T (qb os.length)) (p:Nat):∃ e:Nat→Nat,(∀ s,s < os.length→e s < qn rows s)∧∀ d,StratOK os rows d→(∀ s,s < os.length→os.getD s 0=p→d.getD s 0=e s)→∀ s,(uj os (yb rows) p T).testBit s=true→xl os.length (zg rows d) T s=true:=by
 obtain ⟨e,he⟩:=ubx h hT (wn (uj os (yb rows) p T)) p
 have hX:wg os.length (wd os (yb rows) (wn (uj os (yb rows) p T)) p) os.length T=uj os (yb rows) p T:=(xal hT).1
 rw [hX] at he
 refine ⟨e,he.lt,fun d hd ha s hs => ?_⟩
 have hmo:=qY h hd
 have hok:=he.ok d hd fun s hs ho _=>ha s hs ho
 exact jcc (Z:=fun t=>(uj os (yb rows) p T).testBit t=true) (fun t hx hTt u hu=>by
  rw [yaa] at hu
  exact stays_iff.1 ((hok t hx).2 hTt) u hu) (fun t hx=>(hok t hx).1) hs
def wp (os:List Nat) (rows:List (List Ch × Option Nat)) (p:Nat) (c:Nat→Nat):List ChR:=(List.range os.length).map fun s=>if os.getD s 0=p then ([cN rows s (c s)],none) else (vk (yb rows) s,none)
omit h in
theorem vat {p:Nat} {c:Nat→Nat} {s:Nat} (hs:s < os.length):vk (wp os rows p c) s=if os.getD s 0=p then [cN rows s (c s)] else vk (yb rows) s:=by
 unfold wp
 conv=>lhs;unfold vk
 rw [List.getElem?_map,List.getElem?_range hs]
 show (if os.getD s 0=p then ([cN rows s (c s)],none) else (vk (yb rows) s,none):ChR).1=_
 split <;> rfl
theorem qb7 {p:Nat} {c:Nat→Nat} (hc:∀ s,s < os.length→c s < qn rows s) {φ:List AV→Bool} {x s:Nat} (hp:wd os (wp os rows p c) φ p x s=true):wd os (yb rows) φ p x s=true:=by
 rcases Nat.lt_or_ge s os.length with hs | hs
 ·by_cases ho:os.getD s 0=p
  ·obtain ⟨ch,h1,h2⟩:=(zac ho).1 hp
   rw [vat hs,if_pos ho,List.mem_singleton] at h1
   refine (zac ho).2 ⟨ch,?_,h2⟩
   rw [h1]
   have:=hc s hs
   unfold cN
   rw [List.getD_eq_getElem?_getD,List.getElem?_eq_getElem this]
   exact List.getElem_mem _
  ·refine (gab ho).2 fun ch hch=>(gab ho).1 hp ch ?_
   rw [vat hs,if_neg ho];exact hch
 ·have e1:vk (wp os rows p c) s=[]:=by unfold vk;rw [List.getElem?_eq_none (by simpa [wp] using hs)]
  have e2:vk (yb rows) s=[]:=by unfold vk;rw [List.getElem?_eq_none (by have:=h.width;simp [yb];omega)]
  unfold wd at *
  rw [e1] at hp;rw [e2];exact hp
theorem wbE (hT:Sub T (qb os.length)) (p:Nat) {c:Nat→Nat} (hc:∀ s,s < os.length→c s < qn rows s):∃ e:Nat→Nat,(∀ s,s < os.length→e s < qn rows s) ∧
  ∀ d,StratOK os rows d→(∀ s,s < os.length→os.getD s 0=p→d.getD s 0=c s)→(∀ s,s < os.length→os.getD s 0≠p→d.getD s 0=e s)→∀ s,s < os.length→(uj os (yb rows) p T).testBit s=false→xl os.length (zg rows d) T s=false:=by
 obtain ⟨G,hG⟩:∃ G,xt os (wp os rows p c) p T=G:=⟨_,rfl⟩
 have hGm:∀ a b,Sub a b→Sub (G a) (G b):=fun a b hab=>hG ▸ gaA hab
 have hGT:∀ x,Sub T (G x):=fun x=>hG ▸ xas _ _
 have hGi:∀ x,Sub (G x) (qb os.length):=fun x=>hG ▸ wal hT
 have hRS:Sub (uj os (wp os rows p c) p T) (uj os (yb rows) p T):=by
  refine (xal hT).2 _ (xa2 hT) ?_
  have e:=(xal (rows:=wp os rows p c) (player:=p) hT).1
  have:Sub (xt os (wp os rows p c) p T (uj os (wp os rows p c) p T)) (xt os (yb rows) p T (uj os (wp os rows p c) p T)):=qbm xa8 (fun x s hp=>qb7 h hc hp) Sub.rfl'
  rw [e] at this
  exact this
 have main:(∃ e:Nat→Nat,(∀ s,s < os.length→e s < qn rows s)∧∀ d,StratOK os rows d→(∀ s,s < os.length→os.getD s 0=p→d.getD s 0=c s)→(∀ s,s < os.length→os.getD s 0≠p→(uj os (wp os rows p c) p T).testBit s=false→d.getD s 0=e s) →
   ∀ s,s < os.length→(uj os (wp os rows p c) p T).testBit s=false→xl os.length (zg rows d) T s=false)∧Sub (G (uj os (wp os rows p c) p T)) (uj os (wp os rows p c) p T):=by
  have e0:uj os (wp os rows p c) p T=yA G (qb os.length) (qb os.length):=by rw [← hG];rfl
  rw [e0]
  refine ybp (P:=fun x=>(∃ e:Nat→Nat,(∀ s,s < os.length→e s < qn rows s)∧∀ d,StratOK os rows d→(∀ s,s < os.length→os.getD s 0=p→d.getD s 0=c s)→(∀ s,s < os.length→os.getD s 0≠p→x.testBit s=false→d.getD s 0=e s) →
   ∀ s,s < os.length→x.testBit s=false→xl os.length (zg rows d) T s=false)∧Sub (G x) x) (fun x ⟨⟨e,he1,he2⟩,hx⟩=>⟨?_,hGm _ _ hx⟩) _ _ ⟨⟨fun _=>0,fun s hs=>xY h hs,fun d _ _ _ s hs hb => ?_⟩,hGi _⟩
  ·have hcl:=was (n:=os.length) (pl:=wd os (wp os rows p c) (wn x) p) os.length T (uQ _ _ _)
   have hX:wg os.length (wd os (wp os rows p c) (wn x) p) os.length T=G x:=by rw [← hG];rfl
   rw [hX] at hcl
   have hex:∀ s,∃ k,(s < os.length→k < qn rows s)∧(s < os.length→os.getD s 0≠p→(G x).testBit s=false→¬ (wn x (cN rows s k)=true∧jg (G x) (cN rows s k)=true)):=fun s=>by
    rcases Classical.em (s < os.length∧os.getD s 0≠p∧(G x).testBit s=false) with ⟨h1,h2,h3⟩ | hn
    ·rcases Classical.em (∃ ch,ch∈vk (yb rows) s∧¬ (wn x ch=true∧jg (G x) ch=true)) with ⟨ch,hc,ht⟩ | hno
     ·obtain ⟨k,hk,rfl⟩:=yaU hc
      exact ⟨k,fun _=>hk,fun _ _ _=>ht⟩
     ·exfalso
      have:=hcl s h1 ((gab h2).2 fun ch hc=>by
       rw [vat h1,if_neg h2] at hc
       rcases Classical.em (wn x ch=true∧jg (G x) ch=true) with q | q
       ·exact q
       ·exact absurd ⟨ch,hc,q⟩ hno)
      rw [h3] at this;cases this
    ·exact ⟨0,fun hs=>xY h hs,fun h1 h2 h3=>absurd ⟨h1,h2,h3⟩ hn⟩
   refine ⟨fun s=>if x.testBit s=true then (hex s).choose else e s,fun s hs => ?_,fun d hd hdc hde s hs hxs => ?_⟩
   ·show (if x.testBit s=true then (hex s).choose else e s) < _
    split
    ·exact (hex s).choose_spec.1 hs
    ·exact he1 s hs
   ·have hmo:=qY h hd
    have old:=he2 d hd hdc fun s hs ho hxs=>by
     have:=hde s hs ho (by
      cases hg:(G x).testBit s with
      | false=>rfl
      | true=>rw [hx s hg] at hxs;cases hxs)
     rw [this]
     exact if_neg (by rw [hxs];simp)
    cases hcs:xl os.length (zg rows d) T s with
    | false=>rfl
    | true =>
     have hno:=ya9 (T:=T) (R:=zg rows d) (os:=os) (Z:=fun t=>t < os.length∧(G x).testBit t=false∧xl os.length (zg rows d) T t=true) (fun t ⟨ht,hgt,hct⟩ hTt u hu => ?_) (fun t ⟨ht,hgt,hct⟩ => ?_) ⟨hs,hxs,hcs⟩
     ·have:=ucc hs hcs
      rw [hno] at this;cases this
     ·have hun:=hmo.tos t u hu
      refine ⟨hun,?_,wbu hmo ht hTt hu hct⟩
      have hst:wn x (chD (yb rows) d t)=true:=stays_iff.2 fun v hv=>by
       rw [← yaa] at hv
       have hcv:=wbu hmo ht hTt hv hct
       cases hxv:x.testBit v with
       | true=>rfl
       | false=>rw [old v (hmo.tos t v hv) hxv] at hcv;cases hcv
      rw [yaa] at hu
      cases hgu:(G x).testBit u with
      | false=>rfl
      | true =>
       have htc:jg (G x) (chD (yb rows) d t)=true:=touches_mem.2 ⟨u,hu,hgu⟩
       by_cases ho:os.getD t 0=p
       ·have:=hcl t ht ((zac ho).2 ⟨chD (yb rows) d t,by rw [vat ht,if_pos ho,wav (hdc t ht ho)];exact List.mem_singleton.2 rfl,hst,htc⟩)
        rw [hgt] at this;cases this
       ·have hxt:x.testBit t=true:=by
         cases hxt:x.testBit t with
         | true=>rfl
         | false=>rw [old t ht hxt] at hct;cases hct
        have e1:=hde t ht ho hgt
        replace e1:d.getD t 0=(hex t).choose:=e1.trans (if_pos hxt)
        have:=(hex t).choose_spec.2 ht ho hgt
        rw [← wav e1] at this
        exact absurd ⟨hst,htc⟩ this
     ·cases hTt:T.testBit t with
      | false=>rfl
      | true=>rw [hGT x t hTt] at hgt;cases hgt
  ·rw [y8] at hb
   simp [hs] at hb
 obtain ⟨⟨e,h1,h2⟩,_⟩:=main
 refine ⟨e,h1,fun d hd hdc hde s hs hx=>h2 d hd hdc (fun s hs ho _=>hde s hs ho) s hs ?_⟩
 cases hr:(uj os (wp os rows p c) p T).testBit s with
 | false=>rfl
 | true=>rw [hRS s hr] at hx;cases hx
end game
end
end Go.Abs

namespace Go.Abs
noncomputable section
open Go.Proofs
set_option maxRecDepth 100000
def stC (os:List Nat) (rows:List (List Ch × Option Nat)) (p k:Nat):List Nat:=uh p os (xk rows) (List.replicate os.length 0) k
def stD (os:List Nat) (rows:List (List Ch × Option Nat)) (p k j:Nat):List Nat:=uh (1 - p) os (xk rows) (stC os rows p k) j
def pC (os:List Nat) (rows:List (List Ch × Option Nat)) (p:Nat):Nat:=vh p os (xk rows)
section all
variable {os:List Nat} {rows:List (List Ch × Option Nat)} {T p:Nat} (h:ModOK os rows)
include h
theorem xF:(xk rows).length=os.length:=by simp [xk,h.width]
theorem qaq:∀ l∈xk rows,0 < l:=fun l hl=>by
 obtain ⟨r,hr,rfl⟩:=List.mem_map.1 hl
 exact (h.count r hr).1
theorem zaB {c:List Nat} (hl:c.length=os.length) (hlt:∀ s,s < os.length→c.getD s 0 < (xk rows).getD s 0):StratOK os rows c:=by
 refine ⟨hl,fun s h1 h2 => ?_⟩
 have:=hlt s (by omega)
 rw [← wY] at this
 unfold qn at this
 rw [w6,List.length_map,vD h2] at this
 simpa [List.getD,h1] using this
theorem waa {c:List Nat} (hc:StratOK os rows c):∀ s,s < os.length→c.getD s 0 < (xk rows).getD s 0:=fun s hs=>by
 have:=hc.getD h.width hs
 rw [← wY]
 unfold qn
 rw [w6,List.length_map]
 exact this
theorem wbs {q:Nat} {c:List Nat} (hc:StratOK os rows c) (k:Nat):StratOK os rows (uh q os (xk rows) c k) :=
 zaB h (xaS q os _ _ k (xF h) hc.len) (yaS q os _ _ k (xF h) hc.len (qaq h) (waa h hc))
theorem qbz:StratOK os rows (List.replicate os.length 0):=zaB h (by simp) fun s hs=>by
 rw [← wY]
 have:=xY h hs
 simpa [List.getD,hs] using this
theorem qG (k:Nat):StratOK os rows (stC os rows p k):=wbs h (qbz h) k
theorem qL (k j:Nat):StratOK os rows (stD os rows p k j):=wbs h (qG h k) j
theorem jbc {f:Nat→Nat} (hf:∀ s,s < os.length→f s < qn rows s):StratOK os rows ((List.range os.length).map f):=zaB h (by simp) fun s hs=>by
 rw [← wY]
 simpa [List.getD,hs] using hf s hs
omit h in
theorem zap {f:Nat→Nat} {s:Nat} (hs:s < os.length):((List.range os.length).map f).getD s 0=f s:=by simp [List.getD,hs]
theorem uba {s:Nat} (hs:s < os.length):os.getD s 0=0∨os.getD s 0=1:=by
 have:=h.owners _ (List.getElem_mem hs)
 simpa [List.getD,hs] using this
theorem zaQ (hp:p=0∨p=1) {e:Nat→Nat} (he:∀ s,s < os.length→e s < qn rows s):∃ k,k < pC os rows p∧∀ j s,s < os.length→os.getD s 0=p→(stD os rows p k j).getD s 0=e s:=by
 have hs:StratOK os rows ((List.range os.length).map fun s=>if os.getD s 0=p then e s else 0):=jbc h fun s hs=>by
  split
  ·exact he s hs
  ·exact xY h hs
 obtain ⟨k,hk,hd⟩:=waS p os (xk rows) (List.replicate os.length 0) _ (xF h) (by simp) hs.len (waa h hs) fun s hs ho=>by
  rw [zap hs,if_neg ho]
  simp [List.getD,hs]
 refine ⟨k,hk,fun j s hs' ho => ?_⟩
 have e1:=zav (1 - p) os (xk rows) (stC os rows p k) j (xF h) (qG h k).len s hs' (by omega)
 unfold stD
 rw [e1]
 unfold stC
 rw [hd,zap hs',if_pos ho]
theorem gaP (hp:p=0∨p=1) (k:Nat) {e:Nat→Nat} (he:∀ s,s < os.length→e s < qn rows s):∃ j,j < pC os rows (1 - p)∧(∀ s,s < os.length→os.getD s 0=p→(stD os rows p k j).getD s 0=(stC os rows p k).getD s 0)∧∀ s,s < os.length→os.getD s 0≠p→(stD os rows p k j).getD s 0=e s:=by
 have hs:StratOK os rows ((List.range os.length).map fun s=>if os.getD s 0=p then (stC os rows p k).getD s 0 else e s):=jbc h fun s hs=>by
  split
  ·rw [wY];exact waa h (qG h k) s hs
  ·exact he s hs
 obtain ⟨j,hj,hd⟩:=waS (1 - p) os (xk rows) (stC os rows p k) _ (xF h) (qG h k).len hs.len (waa h hs) fun s hs ho=>by
  have:=uba h hs
  rw [zap hs,if_pos (by omega)]
 refine ⟨j,hj,fun s hs' ho => ?_,fun s hs' ho => ?_⟩ <;> unfold stD <;> rw [hd,zap hs']
 ·rw [if_pos ho]
 ·rw [if_neg ho]
end all
def xM (os:List Nat) (rows:List (List Ch × Option Nat)) (T:Nat) (d:List Nat):Nat:=uf (vg os.length (zg rows d) T) os.length
def uaS (os:List Nat) (rows:List (List Ch × Option Nat)) (T:Nat) (d:List Nat):Nat:=uf (xl os.length (zg rows d) T) os.length
def xm (os:List Nat) (rows:List (List Ch × Option Nat)) (T p k j:Nat):Nat:=yB (qb os.length) (fun j=>xM os rows T (stD os rows p k j)) j
def ym (os:List Nat) (rows:List (List Ch × Option Nat)) (T p k j:Nat):Nat:=yB (qb os.length) (fun j=>uaS os rows T (stD os rows p k j)) j
def zm (os:List Nat) (rows:List (List Ch × Option Nat)) (T p k j:Nat):Nat:=yB (qb os.length) (fun j=>wk (qb os.length) (xM os rows T (stD os rows p k j))) j
def J2 (os:List Nat) (rows:List (List Ch × Option Nat)) (p:Nat):Nat:=pC os rows (1 - p)
section wins
variable {os:List Nat} {rows:List (List Ch × Option Nat)} {T p:Nat}
theorem allN_at {n s:Nat}:(qb n).testBit s=true↔s < n:=by rw [y8];simp
theorem setU_at {n s:Nat} {f:Nat→Bool}:(uf f n).testBit s=true↔s < n∧f s=true:=by rw [jaa];simp
theorem xca {a b n s:Nat} (hn:n≤12) (ha:Sub a (qb n)):(wk a b).testBit s=true↔a.testBit s=true∧b.testBit s=false:=by
 rcases Nat.lt_or_ge s 64 with h | h
 ·rw [yav _ _ _ h];simp
 ·have e:(wk a b).testBit s=false:=Nat.testBit_lt_two_pow (Nat.lt_of_lt_of_le (wag a b) (Nat.pow_le_pow_right (by decide:0 < 2) h:2 ^ 64≤2 ^ s))
  rw [e]
  constructor
  ·intro h;cases h
  ·rintro ⟨h1,_⟩
   have:=allN_at.1 (ha s h1)
   omega
theorem jaV {n:Nat} {f:Nat→Nat→Nat} {K J X:Nat} (hX:Sub X (qb n)) (h1:∀ k,k < K→∀ s,s < n→X.testBit s=false→∃ j,j < J∧(f k j).testBit s=false) (h2:∃ k,k < K∧∀ j,∀ s,s < n→X.testBit s=true→(f k j).testBit s=true) :
  (∀ k,k < K→Sub (yB (qb n) (f k) J) X)∧∃ k,k < K∧yB (qb n) (f k) J=X:=by
 have hsub:∀ k,k < K→Sub (yB (qb n) (f k) J) X:=fun k hk s hs=>by
  obtain ⟨q1,q2⟩:=(uaW s J).1 hs
  cases hx:X.testBit s with
  | true=>rfl
  | false =>
   obtain ⟨j,hj,hf⟩:=h1 k hk s (allN_at.1 q1) hx
   rw [q2 j hj] at hf;cases hf
 obtain ⟨k,hk,h2⟩:=h2
 refine ⟨hsub,k,hk,Sub.anti (hsub k hk) fun s hs => ?_⟩
 exact (uaW s J).2 ⟨hX s hs,fun j _=>h2 j s (allN_at.1 (hX s hs)) hs⟩
variable (h:ModOK os rows)
include h
theorem wbB (hT:Sub T (qb os.length)) (hp:p=0∨p=1):(∀ k,k < pC os rows p→Sub (xm os rows T p k (J2 os rows p)) (ql os (yb rows) p T))∧∃ k,k < pC os rows p∧xm os rows T p k (J2 os rows p)=ql os (yb rows) p T:=by
 refine jaV (f:=fun k j=>xM os rows T (stD os rows p k j)) (vaO _ _ hT) (fun k _ s hs hx => ?_) ?_
 ·obtain ⟨e,he,hok⟩:=va9 h hT p
  obtain ⟨j,hj,_,hd⟩:=gaP h hp k he
  refine ⟨j,hj,?_⟩
  have:=hok _ (qL h k j) hd s hs hx
  unfold xM
  rw [jaa,this];simp
 ·obtain ⟨e,he,hok⟩:=wa9 h hT p
  obtain ⟨k,hk,hd⟩:=zaQ h hp he
  exact ⟨k,hk,fun j s hs hx=>setU_at.2 ⟨hs,hok _ (qL h k j) (hd j) s hx⟩⟩
theorem xbB (hT:Sub T (qb os.length)) (hp:p=0∨p=1):(∀ k,k < pC os rows p→Sub (ym os rows T p k (J2 os rows p)) (uj os (yb rows) p T))∧∃ k,k < pC os rows p∧ym os rows T p k (J2 os rows p)=uj os (yb rows) p T:=by
 refine jaV (f:=fun k j=>uaS os rows T (stD os rows p k j)) (xa2 hT) (fun k _ s hs hx => ?_) ?_
 ·obtain ⟨e,he,hok⟩:=wbE h hT p (c:=fun s=>(stC os rows p k).getD s 0) (fun s hs=>by rw [wY];exact waa h (qG h k) s hs)
  obtain ⟨j,hj,hc,hd⟩:=gaP h hp k he
  refine ⟨j,hj,?_⟩
  have:=hok _ (qL h k j) hc hd s hs hx
  unfold uaS
  rw [jaa,this];simp
 ·obtain ⟨e,he,hok⟩:=xbE h hT p
  obtain ⟨k,hk,hd⟩:=zaQ h hp he
  exact ⟨k,hk,fun j s hs hx=>setU_at.2 ⟨hs,hok _ (qL h k j) (hd j) s hx⟩⟩
theorem ybB (hT:Sub T (qb os.length)) (hp:p=0∨p=1):(∀ k,k < pC os rows p→Sub (zm os rows T p k (J2 os rows p)) (wk (qb os.length) (ql os (yb rows) (1 - p) T)))∧∃ k,k < pC os rows p∧zm os rows T p k (J2 os rows p)=wk (qb os.length) (ql os (yb rows) (1 - p) T):=by
 have hn:=h.states.2
 have dm:∀ b s,(wk (qb os.length) b).testBit s=true↔(qb os.length).testBit s=true∧b.testBit s=false:=fun b s=>xca hn Sub.rfl'
 refine jaV (f:=fun k j=>wk (qb os.length) (xM os rows T (stD os rows p k j))) (fun s hs=>((dm _ s).1 hs).1) (fun k _ s hs hx => ?_) ?_
 ·have hx':(ql os (yb rows) (1 - p) T).testBit s=true:=by
   cases hb:(ql os (yb rows) (1 - p) T).testBit s with
   | true=>rfl
   | false=>rw [(dm _ s).2 ⟨allN_at.2 hs,hb⟩] at hx;cases hx
  obtain ⟨e,he,hok⟩:=wa9 h hT (1 - p)
  obtain ⟨j,hj,_,hd⟩:=gaP h hp k he
  refine ⟨j,hj,?_⟩
  have:=hok _ (qL h k j) (fun s hs ho=>hd s hs (by omega)) s hx'
  have hps:(xM os rows T (stD os rows p k j)).testBit s=true:=setU_at.2 ⟨hs,this⟩
  cases hb:(wk (qb os.length) (xM os rows T (stD os rows p k j))).testBit s with
  | false=>rfl
  | true=>have:=((dm _ s).1 hb).2;rw [hps] at this;cases this
 ·obtain ⟨e,he,hok⟩:=va9 h hT (1 - p)
  obtain ⟨k,hk,hd⟩:=zaQ h hp he
  refine ⟨k,hk,fun j s hs hx=>(dm _ s).2 ⟨allN_at.2 hs,?_⟩⟩
  have hb:=((dm _ s).1 hx).2
  have:=hok _ (qL h k j) (fun s hs ho=>by have:=uba h hs;exact hd j s hs (by omega)) s hs hb
  unfold xM
  rw [jaa,this];simp
end wins
end
end Go.Abs
