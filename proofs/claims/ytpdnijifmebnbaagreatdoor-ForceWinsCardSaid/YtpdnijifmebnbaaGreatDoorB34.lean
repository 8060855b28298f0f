/-
  Steps to a law of this program: SDr1, SDr2.
  Conditions: none.
-/
import Derived.Test.YtpdnijifmebnbaaGreatDoorB33
set_option linter.unusedVariables false
set_option linter.unusedSimpArgs false
set_option linter.unusedSectionVars false
namespace Go.Abs
noncomputable section
open Go.Proofs
set_option maxRecDepth 100000
structure Pk where
 st:Nat
 act:Nat
 gain:Nat
 t0:Nat
 t1:Nat
 t2:Nat
 p0:Nat
 p1:Nat
structure w8 (p:Pk):Prop where
 st:p.st < 256
 act:p.act < 256
 gain:p.gain < 256
 t0:p.t0 < 256
 t1:p.t1 < 256
 t2:p.t2 < 256
 p0:p.p0 < 256
 p1:p.p1 < 256
def u8V (n:Nat):AV:=.int .u8 ((n:Nat):Int)
def pkV (p:Pk):List AV:=[u8V p.st,u8V p.act,u8V p.gain,u8V p.t0,u8V p.t1,u8V p.t2,u8V p.p0,u8V p.p1]
structure Dr where
 st:Nat
 ow:Nat
 gr:Nat
 ce:Nat
 picks:List Pk
structure g8 (d:Dr):Prop where
 st:d.st < 256
 ow:d.ow < 256
 gr:d.gr < 256
 ce:d.ce < 256
 picks:∀ p∈d.picks,w8 p
inductive PicksV:List Pk→AV→Prop where
 | none:PicksV [] .nils
 | some (ps:List Pk) (c:Option Nat):PicksV ps (.vs (ps.map pkV) c)
def drV (d:Dr) (pk:AV):List AV:=[u8V d.st,u8V d.ow,u8V d.gr,u8V d.ce,pk]
theorem qa7 (p:Pk):∀ y∈pkV p,Pure y:=fun y hy=>by
 simp only [pkV,u8V,List.mem_cons,List.not_mem_nil,or_false] at hy
 rcases hy with rfl | rfl | rfl | rfl | rfl | rfl | rfl | rfl <;> exact .int _ _
theorem PicksV.pure {ps:List Pk} {v:AV} (h:PicksV ps v):Pure v:=by
 cases h with
 | none=>exact .nils
 | some ps c =>
  refine .vs _ _ fun i hi j hj => ?_
  have hi':i < ps.length:=by simpa using hi
  have e:(ps.map pkV)[i]=pkV ps[i]:=by simp
  have hm:(ps.map pkV)[i][j]∈pkV ps[i]:=by rw [← e];exact List.getElem_mem _
  exact qa7 ps[i] _ hm
theorem ga7 {d:Dr} {pk:AV} (h:PicksV d.picks pk):∀ y∈drV d pk,Pure y:=fun y hy=>by
 simp only [drV,u8V,List.mem_cons,List.not_mem_nil,or_false] at hy
 rcases hy with rfl | rfl | rfl | rfl | rfl
 ·exact .int _ _
 ·exact .int _ _
 ·exact .int _ _
 ·exact .int _ _
 ·exact h.pure
theorem yan {d:Dr} {pk:AV} (h:PicksV d.picks pk):Pure (.agg (drV d pk)):=.agg _ fun i hi=>ga7 h _ (List.getElem_mem hi)
theorem wQ (p:Pk):Pure (.agg (pkV p)):=.agg _ fun i hi=>qa7 p _ (List.getElem_mem hi)
def Dr.n (d:Dr):Nat:=1 + d.st % 5
def actsL:List (List UInt8):=[[],[97],[103,111],[97,98,99,100,101,102,103,104]]
def centsL:List Nat:=[1,2,3,1]
def Dr.W (d:Dr):Nat:=wholes.getD (d.gr % 8) 1
def Dr.c (d:Dr):Nat:=centsL.getD (d.ce % 4) 1
theorem Dr.W_mem (d:Dr):d.W∈wholes:=by
 have h:d.gr % 8 < 8:=Nat.mod_lt _ (by decide)
 unfold Dr.W
 generalize d.gr % 8=i at h
 have key:∀ i∈List.range 8,wholes.getD i 1∈wholes:=by decide
 exact key i (List.mem_range.2 h)
theorem Dr.c_mem (d:Dr):d.c∈[1,2,3]:=by
 have h:d.ce % 4 < 4:=Nat.mod_lt _ (by decide)
 unfold Dr.c
 generalize d.ce % 4=i at h
 have key:∀ i∈List.range 4,centsL.getD i 1∈[1,2,3]:=by decide
 exact key i (List.mem_range.2 h)
theorem PicksV.okc {ps:List Pk} {v:AV} (h:PicksV ps v):okc v=true:=by cases h <;> rfl
theorem qao {d:Dr} {pk:AV} (h:PicksV d.picks pk):(drV d pk).all Abs.okc=true:=by
 show (true && (true && (true && (true && (Abs.okc pk && true)))))=true
 rw [h.okc];rfl
theorem gbs {d:Dr} {pk:AV} (hd:g8 d) (hp:PicksV d.picks pk):zb Tryz.prog 20 [.agg (drV d pk)] (.int .i64 ((d.n:Nat):Int)):=by
 have h1:=hd.st
 have hm:d.st % 5 < 5:=Nat.mod_lt _ (by decide)
 have hkc:=qao hp
 refine yc (vb (yan hp)) (.int _ _) (jb yd mixed Tryz.func20 rfl (by decide +kernel) ?_)
 conv=>whnf
 repeat ((first | refine And.intro ⟨rfl,by decide,hkc⟩ ?_ | refine za rfl ?_ | refine And.intro rfl (ub (by omega) ?_) | refine ub (by omega) ?_ | refine And.intro rfl (un d.st 5 rfl rfl (by decide) ?_) | refine And.intro rfl ?_);conv=>whnf)
 have e:1 + (((d.st % 5:Nat)):Int)=((d.n:Nat):Int):=by unfold Dr.n;push_cast;rfl
 rw [← e]
 exact .pure _ (.int _ _)
end
end Go.Abs

namespace Go.Abs
noncomputable section
open Go.Proofs
set_option maxRecDepth 100000
def uA (l:List Nat) (i k:Nat):List Nat:=l.set i (l.getD i 0 + k)
theorem y7 (l:List Nat) (i k:Nat):(uA l i k).length=l.length:=by simp [uA]
theorem zah {l:List Nat} {i k:Nat} (hi:i < l.length):(uA l i k).sum=l.sum + k:=by
 unfold uA
 induction l generalizing i with
 | nil=>simp at hi
 | cons a l ih =>
  cases i with
  | zero=>simp;omega
  | succ i =>
   have:=ih (i:=i) (by simpa using hi)
   simp only [List.set_cons_succ,List.sum_cons,List.getD_cons_succ] at *
   omega
def Dr.one (d:Dr) (p:Pk):Nat:=p.p0 % (d.W + 1)
def Dr.two (d:Dr) (p:Pk):Nat:=p.p1 % (d.W - d.one p + 1)
def Dr.parts (d:Dr) (p:Pk):List Nat:=uA (uA (uA (List.replicate d.n 0) (p.t0 % d.n) (d.one p)) (p.t1 % d.n) (d.two p)) (p.t2 % d.n) (d.W - d.one p - d.two p)
def gt (W t k:Nat):Br:=⟨t,qN k W,k / Nat.gcd k W,W / Nat.gcd k W⟩
def brU (W:Nat) (l:List Nat):Nat→List Br
 | 0=>[]
 | t + 1=>if 0 < l.getD t 0 then brU W l t ++ [gt W t (l.getD t 0)] else brU W l t
def Dr.cho (d:Dr) (p:Pk):Ch :=
 ⟨actsL.getD (p.act % 4) [],p.gain % 20 / Nat.gcd (p.gain % 20) d.c,d.c / Nat.gcd (p.gain % 20) d.c,d.W,brU d.W (d.parts p) d.n,none⟩
theorem Dr.n_pos (d:Dr):0 < d.n:=by unfold Dr.n;omega
theorem Dr.n_le (d:Dr):d.n≤5:=by unfold Dr.n;have:=Nat.mod_lt d.st (by decide:0 < 5);omega
theorem Dr.one_le (d:Dr) (p:Pk):d.one p≤d.W:=Nat.le_of_lt_succ (Nat.mod_lt p.p0 (Nat.succ_pos d.W))
theorem Dr.two_le (d:Dr) (p:Pk):d.two p≤d.W - d.one p:=Nat.le_of_lt_succ (Nat.mod_lt p.p1 (Nat.succ_pos (d.W - d.one p)))
theorem Dr.W_le (d:Dr):0 < d.W∧d.W≤100:=by
 have key:∀ w∈wholes,0 < w∧w≤100:=by decide
 exact key _ d.W_mem
theorem Dr.parts_len (d:Dr) (p:Pk):(d.parts p).length=d.n:=by simp [Dr.parts,y7]
theorem Dr.parts_sum (d:Dr) (p:Pk):(d.parts p).sum=d.W:=by
 have h0:=d.n_pos
 have h1:=Nat.mod_lt p.t0 h0
 have h2:=Nat.mod_lt p.t1 h0
 have h3:=Nat.mod_lt p.t2 h0
 have:=d.one_le p
 have:=d.two_le p
 unfold Dr.parts
 rw [zah (by simp [y7];exact h3),zah (by simp [y7];exact h2),zah (by simpa using h1)]
 simp
 omega
theorem xS:∀ (l:List Nat) (i:Nat),l.getD i 0≤l.sum
 | [],i=>by simp
 | a :: l,0=>by simp
 | a :: l,i + 1=>by
  have:=xS l i
  simp only [List.getD_cons_succ,List.sum_cons]
  omega
theorem wah {W:Nat} {l:List Nat}:∀ {t:Nat} {b:Br},b∈brU W l t→b.to < t∧0 < l.getD b.to 0∧b=gt W b.to (l.getD b.to 0)
 | 0,b,h=>by simp [brU] at h
 | t + 1,b,h=>by
  unfold brU at h
  split at h
  ·rename_i h0
   rcases List.mem_append.1 h with h | h
   ·have:=wah h;exact ⟨by omega,this.2⟩
   ·rw [List.mem_singleton.1 h];exact ⟨Nat.lt_succ_self t,h0,rfl⟩
  ·have:=wah h;exact ⟨by omega,this.2⟩
theorem uaU {W:Nat} {l:List Nat}:∀ t:Nat,(brU W l t).length≤t
 | 0=>by simp [brU]
 | t + 1=>by
  have:=uaU (W:=W) (l:=l) t
  unfold brU
  split <;> simp <;> omega
theorem jaU {W:Nat} {l:List Nat}:∀ (t i:Nat) (hi:i < (brU W l t).length),ut (brU W l t) i < ((brU W l t)[i].to:Int)
 | 0,i,hi=>by simp [brU] at hi
 | t + 1,i,hi=>by
  unfold brU at hi ⊢
  by_cases h0:0 < l.getD t 0
  ·simp only [h0,if_true] at hi ⊢
   by_cases h:i < (brU W l t).length
   ·have:=jaU t i h
    rw [List.getElem_append_left h]
    have e:ut (brU W l t ++ [gt W t (l.getD t 0)]) i=ut (brU W l t) i:=by
     cases i with
     | zero=>rfl
     | succ i=>simp only [ut];rw [List.getElem?_append_left (by omega)]
    rw [e];exact this
   ·have hi2:i=(brU W l t).length:=by simp at hi;omega
    subst hi2
    rw [List.getElem_append_right (Nat.le_refl _)]
    simp only [Nat.sub_self,List.getElem_cons_zero]
    show _ < ((t:Nat):Int)
    cases hn:(brU W l t).length with
    | zero=>simp only [ut];omega
    | succ j =>
     simp only [ut]
     rw [List.getElem?_append_left (by omega)]
     have hj:j < (brU W l t).length:=by omega
     rw [List.getElem?_eq_getElem hj]
     have:=(wah (List.getElem_mem hj)).1
     simp only
     omega
  ·simp only [h0,if_false] at hi ⊢
   exact jaU t i hi
theorem vbE (M:Nat) (a b:List Br):xf M (a ++ b)=xf M a + xf M b:=by simp [xf]
theorem ybQ {W k:Nat} (hW:0 < W):k / Nat.gcd k W * (W / (W / Nat.gcd k W))=k:=by
 have g0:0 < Nat.gcd k W:=Nat.gcd_pos_of_pos_right k hW
 have h1:W / (W / Nat.gcd k W)=Nat.gcd k W:=by
  obtain ⟨q,hq⟩:=Nat.gcd_dvd_right k W
  have q0:0 < q:=Nat.pos_of_ne_zero fun e=>by subst e;simp at hq;omega
  have e:W / Nat.gcd k W=q:=by conv=>lhs;lhs;rw [hq]
                               exact Nat.mul_div_cancel_left _ g0
  rw [e]
  conv=>lhs;lhs;rw [hq]
  exact Nat.mul_div_cancel _ q0
 rw [h1]
 exact Nat.div_mul_cancel (Nat.gcd_dvd_left k W)
theorem vaU {W:Nat} (hW:0 < W) {l:List Nat}:∀ t:Nat,t≤l.length→xf W (brU W l t)=(l.take t).sum
 | 0,_=>by simp [brU,xf]
 | t + 1,ht=>by
  have ih:=vaU hW t (Nat.le_of_succ_le ht)
  have ht':t < l.length:=ht
  have e:l.getD t 0=l[t]:=by simp [ht']
  rw [List.take_succ_eq_append_getElem ht',List.sum_append,List.sum_singleton]
  unfold brU
  by_cases h0:0 < l.getD t 0
  ·simp only [h0,if_true]
   rw [vbE,ih]
   have:xf W [gt W t (l.getD t 0)]=l.getD t 0:=by
    simp only [xf,List.map_cons,List.map_nil,List.sum_cons,List.sum_nil,gt,Nat.add_zero]
    exact ybQ hW
   rw [this,e]
  ·simp only [h0,if_false]
   rw [ih];omega
theorem Dr.brs_ok (d:Dr) (p:Pk):BrsOK d.n d.W (brU d.W (d.parts p) d.n) where
 whole:=d.W_le
 ok b hb:=by
  obtain ⟨h1,h2,h3⟩:=wah hb
  have hk:(d.parts p).getD b.to 0≤d.W:=d.parts_sum p ▸ xS _ _
  have hm:=zbQ d.W d.W_mem ((d.parts p).getD b.to 0) (List.mem_range.2 (by omega)) h2
  have g0:0 < Nat.gcd ((d.parts p).getD b.to 0) d.W:=Nat.gcd_pos_of_pos_left _ h2
  rw [h3]
  refine ⟨rfl,hm,?_,?_⟩
  ·exact Nat.div_pos (Nat.le_of_dvd h2 (Nat.gcd_dvd_left _ _)) g0
  ·exact Nat.div_dvd_of_dvd (Nat.gcd_dvd_right _ _)
 inc:=jaU d.n
 lt b hb:=(wah hb).1
 sum:=by
  rw [vaU d.W_le.1 _ (by rw [d.parts_len p];exact Nat.le_refl _),← d.parts_len p,List.take_length,d.parts_sum]
 len:=by
  refine ⟨?_,uaU _⟩
  rcases Nat.eq_zero_or_pos (brU d.W (d.parts p) d.n).length with h | h
  ·have hs:=vaU d.W_le.1 (l:=d.parts p) d.n (by rw [d.parts_len p];exact Nat.le_refl _)
   rw [← d.parts_len p,List.take_length,d.parts_sum,d.parts_len p,List.eq_nil_of_length_eq_zero h] at hs
   have:=d.W_le.1
   simp [xf] at hs
   omega
  ·exact h
theorem vci:∀ a∈actsL,uax a:=by
 intro a ha
 simp only [actsL,List.mem_cons,List.not_mem_nil,or_false] at ha
 rcases ha with rfl | rfl | rfl | rfl <;> exact ⟨by decide,by decide⟩
theorem vbB:∀ w∈wholes,w∣300:=by decide
theorem Dr.cho_ok (d:Dr) (p:Pk):wB d.n (d.cho p) where
 name:=by
  have h:p.act % 4 < 4:=Nat.mod_lt _ (by decide)
  refine vci _ ?_
  show actsL.getD (p.act % 4) []∈actsL
  generalize p.act % 4=i at h
  have key:∀ i∈List.range 4,actsL.getD i []∈actsL:=by decide
  exact key i (List.mem_range.2 h)
 gain:=zb6 d.c d.c_mem (p.gain % 20) (List.mem_range.2 (Nat.mod_lt _ (by decide)))
 dvd:=by
  have key:∀ c∈[1,2,3],c∣300:=by decide
  exact Nat.dvd_trans (Nat.div_dvd_of_dvd (Nat.gcd_dvd_right _ _)) (key _ d.c_mem)
 brs:=d.brs_ok p
 dvds b hb:=Nat.dvd_trans ((d.brs_ok p).ok b hb).2.2.2 (vbB _ d.W_mem)
end
end Go.Abs
