/-
  Steps to a law of this program: SMd0, SMd1, SMd2, SMd3, SMd4, SMd5, SMd6, SMd7, SMd8, SMd9.
  Conditions: none.
-/
import Derived.Test.YtpdnijifmebnbaaGreatDoorB22
import Derived.Test.YtpdnijifmebnbaaGreatDoorB15
import Derived.Test.YtpdnijifmebnbaaGreatDoorB3
import Derived.Test.YtpdnijifmebnbaaGreatDoorB17
set_option linter.unusedVariables false
set_option linter.unusedSimpArgs false
set_option linter.unusedSectionVars false
namespace Go.Abs
noncomputable section
open Go.Proofs
theorem mixed:Tryz.prog.follows .mixedOrders=true:=by decide +kernel
theorem uu {x:AV} (h:Pure x):Pure (.vp [x] 0):=.vp _ _ fun i hi=>by
 have:i=0:=by simpa using hi
 subst this;exact h
theorem zbP {f:Fn} {x:AV} (h:Pure x):Pure (.fn f [] [x]):=.fn _ _ _ (fun i hi=>by simp at hi) fun i hi=>by
 have:i=0:=by simpa using hi
 subst this;exact h
def zaJ:List (Option Blk)→Bool
 | []=>true
 | some (.rows _ _ true) :: _=>false
 | _ :: l=>zaJ l
theorem qQ:∀ {l:List (Option Blk)} {lp:List (Option jc)},zaJ l=true→∀ (b:Nat) (rs:List (List AV)) (g fz:Bool),(Heap.mk l lp).blk? b=some (.rows rs g fz)→fz=false
 | [],_,_,b,rs,g,fz,h=>by simp [Heap.blk?] at h
 | x :: l,lp,hn,b,rs,g,fz,h=>by
  cases b with
  | zero =>
   have e:x=some (.rows rs g fz):=by simpa [Heap.blk?] using h
   subst e
   cases fz with
   | true=>cases hn
   | false=>rfl
  | succ b =>
   have e:(Heap.mk l lp).blk? b=some (.rows rs g fz):=by simpa [Heap.blk?] using h
   refine qQ (l:=l) (lp:=lp) ?_ b rs g fz e
   unfold zaJ at hn
   split at hn
   ·rename_i h;cases h
   ·cases hn
   ·rename_i h;cases h;exact hn
end
end Go.Abs

namespace Go.Abs
noncomputable section
open Go.Proofs
def yad:List (TypeId × TI):=[
 (3,{ desc:=(.int .i64),size:=1,bytes:=8,zero:=[.int .i64 0],cmp:=true }),
 (36,{ desc:=(.struct #[{ name := "Owner",type:=33,offset:=0,embedded:=false,tag := "",pkgPath := "",byteOffset:=0 },{ name := "Choices",type:=34,offset:=1,embedded:=false,tag := "",pkgPath := "",byteOffset:=24 }]),size:=2,bytes:=48,zero:=[.nils,.nils],cmp:=true }),
 (43,{ desc:=(.int .i64),size:=1,bytes:=8,zero:=[.int .i64 0],cmp:=true }),
 (4,{ desc:=.bool,size:=1,bytes:=1,zero:=[.bool false],cmp:=true }),
 (62,{ desc:=(.slice 67),size:=1,bytes:=24,zero:=[.nils],cmp:=true }),
 (67,{ desc:=(.struct #[{ name := "To",type:=3,offset:=0,embedded:=false,tag := "",pkgPath := "",byteOffset:=0 },{ name := "P",type:=25,offset:=1,embedded:=false,tag := "",pkgPath := "",byteOffset:=8 }]),size:=2,bytes:=24,zero:=[.int .i64 0,.str []],cmp:=true }),
 (33,{ desc:=(.slice 3),size:=1,bytes:=24,zero:=[.nils],cmp:=true }),
 (34,{ desc:=(.slice 61),size:=1,bytes:=24,zero:=[.nils],cmp:=true }),
 (61,{ desc:=(.slice 64),size:=1,bytes:=24,zero:=[.nils],cmp:=true }),
 (64,{ desc:=(.struct #[{ name := "Act",type:=9,offset:=0,embedded:=false,tag := "",pkgPath := "",byteOffset:=0 },{ name := "Gain",type:=25,offset:=1,embedded:=false,tag := "",pkgPath := "",byteOffset:=16 },{ name := "Next",type:=62,offset:=2,embedded:=false,tag := "",pkgPath := "",byteOffset:=32 }]),size:=3,bytes:=56,zero:=[.str [],.str [],.nils],cmp:=true }),
 (127,{ desc:=(.struct #[{ name := "Model",type:=36,offset:=0,embedded:=true,tag := "",pkgPath := "",byteOffset:=0 },{ name := "p",type:=3,offset:=2,embedded:=false,tag := "",pkgPath := "croupier/model",byteOffset:=48 },{ name := "gains",type:=3,offset:=3,embedded:=false,tag := "",pkgPath := "croupier/model",byteOffset:=56 }]),size:=4,bytes:=64,zero:=[.nils,.nils,.int .i64 0,.int .i64 0],cmp:=true }),
 (129,{ desc:=(.array 5 128),size:=5,bytes:=40,zero:=[.nilf,.nilf,.nilf,.nilf,.nilf],cmp:=true }),
 (9,{ desc:=.string,size:=1,bytes:=16,zero:=[.str []],cmp:=true }),
 (145,{ desc:=(.slice 5),size:=1,bytes:=24,zero:=[.nils],cmp:=true }),
 (103,{ desc:=(.pointer 127),size:=1,bytes:=8,zero:=[.nilp],cmp:=true }),
 (25,{ desc:=.string,size:=1,bytes:=16,zero:=[.str []],cmp:=true }),
 (5,{ desc:=(.int .u8),size:=1,bytes:=1,zero:=[.int .u8 0],cmp:=true }),
 (128,{ desc:=(.func #[103] #[4] false),size:=1,bytes:=8,zero:=[.nilf],cmp:=true })]
theorem jd:wc Tryz.prog (qv yad):=gak yad (by
 intro p hp
 simp only [yad,List.mem_cons,List.not_mem_nil,or_false] at hp
 rcases hp with rfl | rfl | rfl | rfl | rfl | rfl | rfl | rfl | rfl | rfl | rfl | rfl | rfl | rfl | rfl | rfl | rfl | rfl <;> kernel_rfl)
theorem qap (a b:Nat):zb Tryz.prog 121 [.int .i64 ((a:Nat):Int),.int .i64 ((b:Nat):Int)] (.int .i64 ((Nat.gcd a b:Nat):Int)):=by
 refine yc (wb (.int _ _) (.int _ _)) (.int _ _) (jb jd mixed Tryz.func121 rfl (by decide +kernel) ?_)
 conv=>whnf
 refine gf jd mixed 12 (fun p:Nat × Nat=>p.2) (fun p=>Nat.gcd p.1 p.2=Nat.gcd a b) (fun p=>[(0,.int .i64 ((p.1:Nat):Int)),(1,.int .i64 ((p.2:Nat):Int))])
  (fun _=>⟨[],[]⟩) ?_ (a,b) _ rfl rfl rfl ⟨rfl,rfl,trivial⟩
 rintro ⟨x,y⟩ g hg
 replace hg:Nat.gcd x y=Nat.gcd a b:=hg
 conv=>whnf
 refine yf (fun h1 => ?_) (fun h1 => ?_) <;> conv=>whnf
 ·replace h1:((y:Nat):Int) > 0:=h1
  refine Or.inl ⟨by decide +kernel,?_⟩
  conv=>whnf
  repeat ((first
   | refine ⟨_,_,fun K hK=>(by (conv=>whnf);exact hK),Or.inl ⟨rfl,True.intro,?_⟩⟩
   | refine ⟨_,_,fun K hK=>(by (conv=>whnf);exact And.intro rfl (un x y rfl rfl (by omega) hK)),Or.inl ⟨rfl,True.intro,?_⟩⟩);conv=>whnf)
  refine ⟨(y,x % y),Nat.mod_lt _ (by omega),?_,rfl,rfl,rfl,rfl,trivial⟩
  rw [← hg]
  show Nat.gcd y (x % y)=Nat.gcd x y
  rw [Nat.gcd_comm y,← Nat.gcd_rec,Nat.gcd_comm]
 ·replace h1:¬ ((y:Nat):Int) > 0:=h1
  obtain rfl:y=0:=by omega
  rw [Nat.gcd_zero_right] at hg
  subst hg
  conv=>whnf
  exact .pure _ (.int _ _)
end
end Go.Abs

namespace Go.Abs
noncomputable section
open Go.Proofs
theorem uc {es:List (List AV)} {sz:Nat} {i:Int} {K:AV→Prop} {row:List AV} (k:Nat) (hi:i=k) (hr:es[k]? = some row) (hl:row.length=sz) (h:K (.vp row 0)):qbk es sz i K:=by
 subst hi
 obtain ⟨hk,_⟩:=List.getElem?_eq_some_iff.1 hr
 exact ⟨⟨by omega,by omega⟩,row,by simpa using hr,hl,h⟩
theorem x7 (A:List (Option Blk)) (L:List (Option jc)) (x:Blk):(Heap.mk (A ++ [some x]) L).blk? A.length=some x:=by simp [Heap.blk?]
theorem ubO (A:List (Option Blk)) (L:List (Option jc)) (x y:Blk):(Heap.mk (A ++ [some x]) L).put A.length y=⟨A ++ [some y],L⟩:=by simp [Heap.put]
theorem jO (A:List (Option Blk)) (L:List (Option jc)) (x y:Blk):(Heap.mk ((A ++ [some x]).set A.length (some y)) L).blk? A.length=some y:=by simp [Heap.blk?]
theorem ybh (B:List (Option Blk)) (k:Nat) (L:List (Option jc)) (x y:Blk):(Heap.mk (B ++ nones (k + 1)) L).le ⟨((B ++ nones k) ++ [some x]).set (B ++ nones k).length (some y),L⟩:=by
 refine ⟨by simp,rfl,fun b z hb => ?_⟩
 rw [zK] at hb
 have hl:=qA hb
 have hl':b < B.length:=hl
 unfold Heap.blk? at hb ⊢
 simp only at hb ⊢
 rw [List.getElem?_set_ne (by simp;omega),List.append_assoc,List.getElem?_append_left hl']
 exact hb
abbrev ChR:=List (List AV) × Option Nat
def jp:Nat→List ChR→List (List AV)
 | _,[]=>[]
 | s,r :: rest=>(r.1.map fun ch=>[.int .i64 ((s:Nat):Int),.agg ch]) ++ jp (s + 1) rest
def ja (rows:List ChR):List (List AV):=rows.map fun r=>[.vs r.1 r.2]
def ChC (ch:List AV):Prop:=∃ a g ns c,ch=[.str a,.str g,.vs ns c]∧∀ row∈ns,∀ x∈row,Pure x
attribute [local irreducible] Heap.blk?
set_option maxHeartbeats 1000000 in
theorem jaW {O:AV} {rows:List ChR} {cc:Option Nat} (hc:∀ r∈rows,∀ ch∈r.1,ChC ch) (hn:rows.length < 4611686018427387904) (hn2:∀ r∈rows,r.1.length < 4611686018427387904) :
  jaX Tryz.prog 87 [.vp [O,.vs (ja rows) cc] 0] (jp 0 rows):=⟨fun B L lp K hR=>by
 letI:FH:=gZ
 refine jb jd mixed Tryz.func87 rfl (by decide +kernel) ?_
 conv=>whnf
 have hlr:(ja rows).length=rows.length:=by simp [ja]
 repeat ((first | refine qc hlr ?_ | refine And.intro rfl ?_);conv=>whnf)
 refine gf jd mixed 28 (fun a:Nat × Nat × List (Option Blk) × List (Option jc)=>rows.length - a.1)
  (fun a=>a.1≤rows.length∧a.2.2.1.length=B.length∧uK Tryz.prog lp (jp a.1 (rows.drop a.1)) a.2.2.1 a.2.2.2 K)
  (fun a=>[(0,.yld lp),(8,.vs (ja rows) cc),(9,.int .i64 ((rows.length:Nat):Int)),(10,.int .i64 ((a.1:Nat):Int))]) (fun a=>⟨a.2.2.1 ++ nones a.2.1,a.2.2.2⟩) ?_ (0,0,B,L) _
  ⟨Nat.zero_le _,rfl,hR⟩ (by show (Heap.mk B L)=⟨B ++ [],L⟩;rw [List.append_nil]) rfl ⟨rfl,rfl,rfl,rfl,trivial⟩
 rintro ⟨s,k,B1,L1⟩ g ⟨h1,h2,h3⟩
 simp only at h1 h2 h3
 conv=>whnf
 refine yf (fun h4 => ?_) (fun h4 => ?_) <;> conv=>whnf
 ·have hs:s < rows.length:=by have:((s:Nat):Int) < ((rows.length:Nat):Int):=h4;omega
  obtain ⟨⟨cs,cap⟩,hrw⟩:∃ r:ChR,rows[s]=r:=⟨_,rfl⟩
  have hi:(ja rows)[s]? = some [.vs cs cap]:=by simp [ja,hs,hrw]
  have hmem:((cs,cap):ChR)∈rows:=hrw ▸ List.getElem_mem hs
  have hd:rows.drop s=(cs,cap) :: rows.drop (s + 1):=by rw [List.drop_eq_getElem_cons hs,hrw]
  rw [hd] at h3
  refine uc s rfl hi rfl ?_
  conv=>whnf
  refine qc rfl ?_
  conv=>whnf
  refine gf jd mixed 28 (fun a:Nat × Nat × List (Option Blk) × List (Option jc)=>cs.length - a.1)
   (fun a=>a.1≤cs.length∧a.2.2.1.length=B.length∧uK Tryz.prog lp (((cs.drop a.1).map fun ch=>[.int .i64 ((s:Nat):Int),.agg ch]) ++ jp (s + 1) (rows.drop (s + 1))) a.2.2.1 a.2.2.2 K)
   (fun a=>[(0,.yld lp),(3,.int .i64 ((s:Nat):Int)),(8,.vs (ja rows) cc),(9,.int .i64 ((rows.length:Nat):Int)),(10,.int .i64 ((s:Nat):Int)),(15,.vs cs cap),(16,.int .i64 ((cs.length:Nat):Int)),(17,.int .i64 ((a.1:Nat):Int))])
   (fun a=>⟨a.2.2.1 ++ nones a.2.1,a.2.2.2⟩) ?_ (0,k,B1,L1) _ ⟨Nat.zero_le _,h2,h3⟩ rfl rfl ⟨rfl,rfl,rfl,rfl,rfl,rfl,rfl,rfl,trivial⟩
  rintro ⟨j,k2,B2,L2⟩ g2 ⟨i1,i2,i3⟩
  simp only at i1 i2 i3
  conv=>whnf
  refine yf (fun h5 => ?_) (fun h5 => ?_) <;> conv=>whnf
  ·have hj:j < cs.length:=by have:((j:Nat):Int) < ((cs.length:Nat):Int):=h5;omega
   obtain ⟨ch,hch⟩:∃ ch,cs[j]=ch:=⟨_,rfl⟩
   have hcj:cs[j]? = some ch:=by rw [List.getElem?_eq_getElem hj,hch]
   have hck:=hc _ hmem ch (hch ▸ List.getElem_mem hj)
   obtain ⟨ca,cg,ns,nc,rfl,hns⟩:=hck
   refine uc j rfl hcj rfl ?_
   conv=>whnf
   refine And.intro ⟨by decide,rfl⟩ ?_
   conv=>whnf
   generalize hq:Heap.blk? _ _=q
   obtain rfl:=hq.symm.trans (x7 (B2 ++ nones k2) L2 _)
   conv=>whnf
   refine qa rfl ?_
   conv=>whnf
   generalize hq:Heap.blk? _ _=q
   obtain rfl:=hq.symm.trans (jO (B2 ++ nones k2) L2 _ _)
   conv=>whnf
   refine za rfl ?_
   conv=>whnf
   have hd2:cs.drop j=[.str ca,.str cg,.vs ns nc] :: cs.drop (j + 1):=by rw [List.drop_eq_getElem_cons hj,hch]
   rw [hd2,List.map_cons,List.cons_append] at i3
   refine ⟨ybv (ybh B2 k2 L2 _ _) (jaT (fun r h' hq => ?_) (i3 (k2 + 1)))⟩
   obtain ⟨B',L',e1,rfl,hq⟩:=hq
   have hcl:=hn2 _ hmem
   simp only at hcl
   rcases hq with ⟨rfl,hq⟩ | ⟨rfl,hq⟩ <;> conv=>whnf
   ·repeat ((first | refine xbt ?_ | refine ya rfl ?_ | refine And.intro rfl ?_ | refine ub (by omega) ?_);conv=>whnf)
    refine ⟨(j + 1,k2 + 1,B',L'),by show cs.length - (j + 1) < cs.length - j;omega,⟨hj,e1.trans i2,hq⟩,rfl,rfl,rfl,rfl,rfl,rfl,rfl,rfl,rfl,?_,trivial⟩
    show some (AV.int .i64 _)=some (AV.int .i64 _)
    congr 2
   ·repeat ((first | refine ybt ?_ | refine ua rfl ?_);conv=>whnf)
    exact ⟨rfl,B',L',k2 + 1,e1.trans i2,rfl,hq⟩
  ·have hj:¬ ((j:Nat):Int) < ((cs.length:Nat):Int):=h5
   obtain rfl:j=cs.length:=by omega
   rw [List.drop_length] at i3
   repeat ((first | refine And.intro rfl ?_ | refine ub (by omega) ?_);conv=>whnf)
   refine ⟨(s + 1,k2,B2,L2),by show rows.length - (s + 1) < rows.length - s;omega,⟨hs,i2,i3⟩,rfl,rfl,rfl,rfl,rfl,rfl,trivial⟩
 ·have hs:¬ ((s:Nat):Int) < ((rows.length:Nat):Int):=h4
  obtain rfl:s=rows.length:=by omega
  rw [List.drop_length] at h3
  exact ⟨rfl,B1,L1,k,h2,rfl,h3⟩⟩
end
end Go.Abs

namespace Go.Abs
noncomputable section
open Go.Proofs
set_option maxRecDepth 100000
theorem uai {rows:List ChR} {os:List (List AV)} {oc cc:Option Nat} (ho:∀ r∈os,∀ x∈r,Pure x) (hc:∀ r∈rows,∀ ch∈r.1,ChC ch) :
  zb Tryz.prog 69 [.agg [.vs os oc,.vs (ja rows) cc]] (.fn (.func 87) [] [.vp [.vs os oc,.vs (ja rows) cc] 0]):=by
 have pO:Pure (.vs os oc):=.vs _ _ fun i hi j hj=>ho _ (List.getElem_mem hi) _ (List.getElem_mem hj)
 have pC:Pure (.vs (ja rows) cc):=.vs _ _ fun i hi j hj=>by
  have hi':i < rows.length:=by simpa [ja] using hi
  have e:(ja rows)[i]=[.vs rows[i].1 rows[i].2]:=by simp [ja]
  have hj0:j=0:=by simp only [e] at hj;simpa using hj
  subst hj0
  have e2:(ja rows)[i][0]=.vs rows[i].1 rows[i].2:=by simp only [e,List.getElem_cons_zero]
  rw [e2]
  refine .vs _ _ fun p hp q hq => ?_
  obtain ⟨a,g,ns,c,hch,hns⟩:=hc _ (List.getElem_mem hi') _ (List.getElem_mem hp)
  have hm:rows[i].1[p][q]∈[AV.str a,.str g,.vs ns c]:=by rw [← hch];exact List.getElem_mem _
  simp only [List.mem_cons,List.not_mem_nil,or_false] at hm
  rcases hm with h | h | h <;> rw [h]
  ·exact .str _
  ·exact .str _
  ·exact .vs _ _ fun x hx y hy=>hns _ (List.getElem_mem hx) _ (List.getElem_mem hy)
 have pA:Pure (.agg [.vs os oc,.vs (ja rows) cc]):=xan pO pC
 have pF:Pure (.fn (.func 87) [] [.vp [.vs os oc,.vs (ja rows) cc] 0]):=zbP (.vp _ _ fun i hi=>by
  match i,hi with
  | 0,_=>exact pO
  | 1,_=>exact pC)
 refine yc (vb pA) pF (jb jd mixed Tryz.func69 rfl (by decide +kernel) ?_)
 conv=>whnf
 refine And.intro ⟨rfl,by decide,rfl⟩ ?_
 conv=>whnf
 refine .fn _ _ _ _ _ rfl rfl (fun i hi=>by simp at hi) fun i hi hj => ?_
 have:i=0:=by simpa using hi
 subst this
 refine .ptr 0 0 0 [[_,_]] false false _ rfl (by simp) rfl fun t h1 h2 => ?_
 match t,h1 with
 | 0,_=>exact .pure _ pO
 | 1,_=>exact .pure _ pC
def waX (q:List UInt8) (n d:Nat):Prop:=zb Tryz.prog 101 [.str q] (.tup [.int .i64 ((n:Nat):Int),.int .i64 ((d:Nat):Int),.bool true])
def gaX (D:Nat) (v:List AV):Prop:=∃ s a g ns c n d,v=[.int .i64 s,.agg [.str a,.str g,.vs ns c]]∧waX g n d∧0 < d∧d∣D∧(∀ row∈ns,∀ x∈row,Pure x)
def ug (os:List (List AV)) (oc:Option Nat) (rows:List ChR) (cc:Option Nat) (p g:Nat):Option Blk :=
 some (.rows [[.vs os oc,.vs (ja rows) cc,.int .i64 ((p:Nat):Int),.int .i64 ((g:Nat):Int)]] false false)
theorem gL {n m:Nat} {row:List AV} {g fz:Bool} (h:∀ y∈row,Lt n m y):(Blk.rows [row] g fz).Lt n m:=fun r hr y hy=>by
 obtain rfl:r=row:=by simpa using hr
 exact h y hy
theorem yaq {os:List (List AV)} {oc:Option Nat} {rows:List ChR} {cc:Option Nat} {p:Nat} (pM:Pure (.agg [.vs os oc,.vs (ja rows) cc])) (g:Nat) :
  LtB [ug os oc rows cc p g,some (.rows [[.ptr 0 0 0]] false false),some (.rows [[.bool false]] false false)]:=by
 intro b x hb
 cases pM with
 | agg _ h =>
  have h0:Pure (.vs os oc):=h 0 (by simp)
  have h1:Pure (.vs (ja rows) cc):=h 1 (by simp)
  match b,hb with
  | 0,hb =>
   obtain rfl:Blk.rows [[.vs os oc,.vs (ja rows) cc,.int .i64 ((p:Nat):Int),.int .i64 ((g:Nat):Int)]] false false=x:=by simpa [Heap.blk?,ug] using hb
   refine gL fun y hy => ?_
   simp only [List.mem_cons,List.not_mem_nil,or_false] at hy
   rcases hy with rfl | rfl | rfl | rfl
   ·exact h0.lt _ _
   ·exact h1.lt _ _
   ·exact .int _ _
   ·exact .int _ _
  | 1,hb =>
   obtain rfl:Blk.rows [[.ptr 0 0 0]] false false=x:=by simpa [Heap.blk?] using hb
   refine gL fun y hy => ?_
   obtain rfl:y=.ptr 0 0 0:=by simpa using hy
   exact .ptr _ _ _ (by simp)
  | 2,hb =>
   obtain rfl:Blk.rows [[.bool false]] false false=x:=by simpa [Heap.blk?] using hb
   refine gL fun y hy => ?_
   obtain rfl:y=.bool false:=by simpa using hy
   exact .bool _
  | b + 3,hb=>simp [Heap.blk?] at hb
set_option maxHeartbeats 2000000 in
theorem gb5 {rows:List ChR} {os:List (List AV)} {oc cc:Option Nat} {p g0 D:Nat} (ho:∀ r∈os,∀ x∈r,Pure x) (hc:∀ r∈rows,∀ ch∈r.1,ChC ch) (hn:rows.length < 4611686018427387904) (hn2:∀ r∈rows,r.1.length < 4611686018427387904)
  (hD:D≤9999∧0 < D) (hv:∀ v∈jp 0 rows,gaX D v) :
  CallSem Tryz.prog 79 [.ptr 0 0 0] ⟨[ug os oc rows cc p g0],[]⟩ fun r h'=>r=.bool true∧∃ g G,h'=⟨ug os oc rows cc p g :: G,[none]⟩:=by
 have hall:=uai (oc:=oc) (cc:=cc) ho hc
 have hit:=jaW (O:=.vs os oc) (cc:=cc) hc hn hn2
 refine jb jd mixed Tryz.func79 rfl (by decide +kernel) ?_
 have pM:Pure (.agg [.vs os oc,.vs (ja rows) cc]):=by
  cases hall.pure with
  | fn _ _ _ _ h2 =>
   have:=h2 0 (by simp)
   cases this with
   | vp _ _ h=>exact .agg _ fun i hi=>h i hi
 conv=>whnf
 repeat ((first | refine And.intro ⟨rfl,by decide,rfl⟩ ?_ | refine And.intro ⟨by decide,rfl⟩ ?_ | refine za rfl ?_ | refine qa rfl ?_ | refine wa hall (vb pM) ?_);conv=>whnf)
 refine wab hit rfl (fun _ h=>by cases h) (fun vs B=>(∀ v∈vs,gaX D v)∧∃ g,0 < g∧g∣D∧B=[ug os oc rows cc p g,some (.rows [[.ptr 0 0 0]] false false),some (.rows [[.bool false]] false false)])
  ⟨hv,1,by omega,Nat.one_dvd _,rfl⟩ (yaq pM 1) ?_ ?_
 ·rintro v vs B ⟨hv',g,hg0,hgD,rfl⟩ -
  obtain ⟨s,a,gq,ns,c,n,d,rfl,hsm,hd0,hdD,hns⟩:=hv' _ List.mem_cons_self
  have pCh:Pure (.agg [.str a,.str gq,.vs ns c]):=.agg _ fun i hi=>by
   match i,hi with
   | 0,_=>exact .str _
   | 1,_=>exact .str _
   | 2,_=>exact .vs _ _ fun x hx y hy=>hns _ (List.getElem_mem hx) _ (List.getElem_mem hy)
  refine ⟨rfl,fun x hx => ?_,fun r=>zn jd mixed ?_⟩
  ·simp only [List.mem_cons,List.not_mem_nil,or_false] at hx
   rcases hx with rfl | rfl
   ·exact .int _ _
   ·exact pCh
  conv=>whnf
  repeat ((first | refine And.intro ⟨by decide,rfl⟩ ?_ | refine za rfl ?_ | refine qa rfl ?_);conv=>whnf)
  refine ⟨rfl,_,rfl,fun r'=>zn jd mixed ?_⟩
  conv=>whnf
  repeat ((first | refine za rfl ?_ | refine qa rfl ?_ | refine wa hsm (vb (.str _)) ?_ | refine ua rfl ?_ | refine ya rfl ?_ | refine ya (decide_eq_false (by omega)) ?_ | refine ua (by simp only [beq_false,Bool.not_eq_true',decide_eq_false_iff_not];omega) ?_ | refine And.intro rfl ?_);conv=>whnf)
  have hgD':g≤D:=Nat.le_of_dvd hD.2 hgD
  have hlcm:g / Nat.gcd g d * d=Nat.lcm g d:=by rw [Nat.lcm_eq_mul_div,Nat.div_mul_right_comm (Nat.gcd_dvd_left g d)]
  have hl0:0 < Nat.lcm g d:=Nat.lcm_pos hg0 hd0
  have hlD:Nat.lcm g d∣D:=Nat.lcm_dvd hgD hdD
  have hl1:Nat.lcm g d≤D:=Nat.le_of_dvd hD.2 hlD
  have hgc:Nat.gcd g d≠0:=by have:=Nat.gcd_pos_of_pos_left d hg0;omega
  have hq:g / Nat.gcd g d≤g:=Nat.div_le_self _ _
  have hw1:IntKind.i64.wrap ((g / Nat.gcd g d:Nat):Int)=((g / Nat.gcd g d:Nat):Int):=by
   generalize g / Nat.gcd g d=q at hq
   exact IntWalk.i64_in _ (by omega)
  have hw2:IntKind.i64.wrap ((Nat.lcm g d:Nat):Int)=((Nat.lcm g d:Nat):Int):=IntWalk.i64_in _ (by omega)
  have hmul:((g / Nat.gcd g d:Nat):Int) * ((d:Nat):Int)=((Nat.lcm g d:Nat):Int):=by rw [← Int.natCast_mul,hlcm]
  refine qm (jb jd mixed Tryz.func102 rfl (by decide +kernel) ?_)
  conv=>whnf
  refine Or.inl ⟨by decide +kernel,?_⟩
  conv=>whnf
  repeat ((first | (refine ⟨_,_,fun K hK=>(by (conv=>whnf);first | exact hK | exact za rfl hK | exact wa (qap g d) (wb (.int _ _) (.int _ _)) hK | exact And.intro rfl (yT g (Nat.gcd g d) rfl rfl hgc hw1 hK) | exact And.intro rfl (zi (Nat.lcm g d) hmul hw2 hK) | (refine qa rfl ?_;(conv=>whnf);exact hK)),?_⟩;first | exact Or.inl ⟨rfl,trivial,?_⟩ | refine Or.inl ⟨rfl,trivial,?_⟩ | refine Or.inr ⟨trivial,(by repeat' (first | exact True.intro | refine And.intro ?_ ?_ | exact Or.inl (by decide +kernel))),?_⟩));conv=>whnf)
  have hle:decide (((Nat.lcm g d:Nat):Int)≤9999)=true:=decide_eq_true (by omega)
  repeat ((first | refine za rfl ?_ | refine And.intro rfl ?_ | refine ya (decide_eq_false (by omega)) ?_ | refine ya (by rw [hle];rfl) ?_ | refine ua rfl ?_ | refine ya rfl ?_);conv=>whnf)
  exact ⟨[ug os oc rows cc p (Nat.lcm g d),_,_],[_],rfl,rfl,yaq pM _,fun v hv=>hv' v (List.mem_cons_of_mem _ hv),Nat.lcm g d,hl0,hlD,rfl⟩
 ·rintro B ⟨-,g,hg0,hgD,rfl⟩ -
  conv=>whnf
  repeat ((first | refine za rfl ?_ | refine qa rfl ?_ | refine And.intro rfl ?_);conv=>whnf)
  exact ⟨g,_,rfl⟩
end
end Go.Abs

namespace Go.Abs
noncomputable section
open Go.Proofs
set_option maxRecDepth 100000
def ubz (a:List UInt8):Prop:=a.length≤8∧zb Tryz.prog 99 [.vs (a.map fun b=>[.int .u8 b.toNat]) none,.fn (.func 100) [] []] (.bool false)
def vaX (v:List AV):Prop:=∃ s a g ns c,v=[.int .i64 s,.agg [.str a,.str g,.vs ns c]]∧ubz a∧(∀ row∈ns,∀ x∈row,Pure x)
theorem ubu {os:List (List AV)} {oc:Option Nat} {rows:List ChR} {cc:Option Nat} {p g n m:Nat} (pM:Pure (.agg [.vs os oc,.vs (ja rows) cc])) {x:Blk} (hx:ug os oc rows cc p g=some x):x.Lt n m:=by
 cases pM with
 | agg _ hq =>
  have h0:Pure (.vs os oc):=hq 0 (by simp)
  have h1:Pure (.vs (ja rows) cc):=hq 1 (by simp)
  obtain rfl:Blk.rows [[.vs os oc,.vs (ja rows) cc,.int .i64 ((p:Nat):Int),.int .i64 ((g:Nat):Int)]] false false=x:=by simpa [ug] using hx
  refine gL fun y hy => ?_
  simp only [List.mem_cons,List.not_mem_nil,or_false] at hy
  rcases hy with rfl | rfl | rfl | rfl
  ·exact h0.lt _ _
  ·exact h1.lt _ _
  ·exact .int _ _
  ·exact .int _ _
theorem gX {os:List (List AV)} {oc:Option Nat} {rows:List ChR} {cc:Option Nat} {p:Nat} (pM:Pure (.agg [.vs os oc,.vs (ja rows) cc])) (g:Nat):LtB [ug os oc rows cc p g]
 | 0,_,hb=>ubu pM (by simpa [Heap.blk?,ug] using hb)
 | b + 1,_,hb=>by simp [Heap.blk?] at hb
theorem xbg {os:List (List AV)} {oc:Option Nat} {rows:List ChR} {cc:Option Nat} {p:Nat} (pM:Pure (.agg [.vs os oc,.vs (ja rows) cc])) (g:Nat) :
  LtB [ug os oc rows cc p g,some (.rows [[.bool false]] false false)]
 | 0,_,hb=>ubu pM (by simpa [Heap.blk?,ug] using hb)
 | 1,x,hb=>by
  obtain rfl:Blk.rows [[.bool false]] false false=x:=by simpa [Heap.blk?] using hb
  refine gL fun y hy => ?_
  obtain rfl:y=.bool false:=by simpa using hy
  exact .bool _
 | b + 2,_,hb=>by simp [Heap.blk?] at hb
set_option maxHeartbeats 2000000 in
theorem wbX {rows:List ChR} {os:List (List AV)} {oc cc:Option Nat} {p g0:Nat} (ho:∀ r∈os,∀ x∈r,Pure x) (hc:∀ r∈rows,∀ ch∈r.1,ChC ch) (hn:rows.length < 4611686018427387904) (hn2:∀ r∈rows,r.1.length < 4611686018427387904)
  (hv:∀ v∈jp 0 rows,vaX v) :
  CallSem Tryz.prog 78 [.ptr 0 0 0] ⟨[ug os oc rows cc p g0],[]⟩ fun r h'=>r=.bool true∧∃ G,h'=⟨ug os oc rows cc p g0 :: G,[none]⟩:=by
 have hall:=uai (oc:=oc) (cc:=cc) ho hc
 have hit:=jaW (O:=.vs os oc) (cc:=cc) hc hn hn2
 refine jb jd mixed Tryz.func78 rfl (by decide +kernel) ?_
 have pM:Pure (.agg [.vs os oc,.vs (ja rows) cc]):=by
  cases hall.pure with
  | fn _ _ _ _ h2 =>
   have:=h2 0 (by simp)
   cases this with
   | vp _ _ h=>exact .agg _ fun i hi=>h i hi
 conv=>whnf
 repeat ((first | refine And.intro ⟨rfl,by decide,rfl⟩ ?_ | refine And.intro ⟨by decide,rfl⟩ ?_ | refine za rfl ?_ | refine qa rfl ?_ | refine wa hall (vb pM) ?_);conv=>whnf)
 refine wab hit rfl (fun _ h=>by cases h) (fun vs B=>(∀ v∈vs,vaX v)∧B=[ug os oc rows cc p g0,some (.rows [[.bool false]] false false)])
  ⟨hv,rfl⟩ (xbg pM g0) ?_ ?_
 ·rintro v vs B ⟨hv',rfl⟩ -
  obtain ⟨s,a,gq,ns,c,rfl,⟨ha1,ha2⟩,hns⟩:=hv' _ List.mem_cons_self
  have pCh:Pure (.agg [.str a,.str gq,.vs ns c]):=.agg _ fun i hi=>by
   match i,hi with
   | 0,_=>exact .str _
   | 1,_=>exact .str _
   | 2,_=>exact .vs _ _ fun x hx y hy=>hns _ (List.getElem_mem hx) _ (List.getElem_mem hy)
  refine ⟨rfl,fun x hx => ?_,fun r=>zn jd mixed ?_⟩
  ·simp only [List.mem_cons,List.not_mem_nil,or_false] at hx
   rcases hx with rfl | rfl
   ·exact .int _ _
   ·exact pCh
  conv=>whnf
  repeat ((first | refine And.intro ⟨by decide,rfl⟩ ?_ | refine za rfl ?_ | refine qa rfl ?_);conv=>whnf)
  refine ⟨rfl,_,rfl,fun r'=>zn jd mixed ?_⟩
  conv=>whnf
  repeat ((first | refine za rfl ?_ | refine qa rfl ?_ | refine ua rfl ?_ | refine ya rfl ?_ | refine ya (decide_eq_false (by omega)) ?_ | refine ua (by simp only [beq_false,Bool.not_eq_true',decide_eq_false_iff_not];omega) ?_ | refine And.intro rfl ?_ | refine qc rfl ?_);conv=>whnf)
  refine Or.inr ?_
  conv=>whnf
  have pB:Pure (.vs (a.map fun b=>[.int .u8 b.toNat]) none):=.vs _ _ fun i hi j hj=>by
   have e:(a.map fun b=>[AV.int .u8 b.toNat])[i]=[.int .u8 (a[i]'(by simpa using hi)).toNat]:=by simp
   have:j=0:=by simp only [e] at hj;simpa using hj
   subst this
   simp only [e,List.getElem_cons_zero]
   exact .int _ _
  repeat ((first | refine ua (by simp only [beq_false,Bool.not_eq_true',decide_eq_false_iff_not];omega) ?_ | refine ya (decide_eq_false (by omega)) ?_ | refine ua rfl ?_ | refine ya rfl ?_ | refine And.intro rfl ?_ | refine wa ha2 (wb pB (.fn _ _ _ (fun i hi=>by simp at hi) (fun i hi=>by simp at hi))) ?_ | refine ya (decide_eq_false (by omega)) ?_ | refine ua rfl ?_ | refine ya rfl ?_);conv=>whnf)
  exact ⟨[ug os oc rows cc p g0,_],[_],rfl,rfl,xbg pM _,fun v hv=>hv' v (List.mem_cons_of_mem _ hv),rfl⟩
 ·rintro B ⟨-,rfl⟩ -
  conv=>whnf
  repeat ((first | refine za rfl ?_ | refine qa rfl ?_ | refine And.intro rfl ?_);conv=>whnf)
  exact ⟨_,rfl⟩
end
end Go.Abs

namespace Go.Abs
noncomputable section
open Go.Proofs
structure Br where
 to:Nat
 p:List UInt8
 n:Nat
 d:Nat
def brV (b:Br):List AV:=[.int .i64 ((b.to:Nat):Int),.str b.p]
def wcj (D:Nat) (b:Br):Prop:=waX b.p b.n b.d∧1≤b.n∧0 < b.d∧b.d∣D
def xf (M:Nat) (l:List Br):Nat:=(l.map fun b=>b.n * (M / b.d)).sum
def ut (l:List Br):Nat→Int
 | 0 => -1
 | i + 1=>match l[i]? with | some b=>b.to | none=>0
structure xax (N D:Nat) (l:List Br):Prop where
 ok:∀ b∈l,wcj D b
 inc:∀ (i:Nat) (hi:i < l.length),ut l i < (l[i].to:Int)
 lt:∀ b∈l,b.to < N
 sum:∀ M,0 < M→(∀ b∈l,b.d∣M)→xf M l=M
 len:l.length < 4611686018427387904
theorem wa2 (M:Nat) (l:List Br) (i:Nat) (hi:i < l.length):xf M (l.take (i + 1))=xf M (l.take i) + l[i].n * (M / l[i].d):=by
 unfold xf
 rw [List.take_succ_eq_append_getElem hi,List.map_append,List.sum_append]
 simp
theorem va2 (M:Nat) (l:List Br) (i:Nat):xf M (l.take i)≤xf M l:=by
 have h:xf M l=xf M (l.take i) + xf M (l.drop i):=by
  unfold xf
  rw [← List.sum_append,← List.map_append,List.take_append_drop]
 omega
set_option maxHeartbeats 1000000 in
theorem qaJ {os:List (List AV)} {oc:Option Nat} {rows:List ChR} {cc:Option Nat} {p g d D:Nat} {t:Int} {q:List UInt8} {K:AV→Heap→Prop} (hD:D≤9999∧0 < D) (hp0:0 < p) (hpD:p∣D) (hd0:0 < d) (hdD:d∣D)
  (hk:K (.bool true) ⟨[ug os oc rows cc (Nat.lcm p d) g,some (.rows [[.int .i64 t,.str q]] false false)],[]⟩) :
  CallSem Tryz.prog 102 [.ptr 0 0 2,.int .i64 ((d:Nat):Int)] ⟨[ug os oc rows cc p g,some (.rows [[.int .i64 t,.str q]] false false)],[]⟩ K:=by
 have hgD':p≤D:=Nat.le_of_dvd hD.2 hpD
 have hlcm:p / Nat.gcd p d * d=Nat.lcm p d:=by rw [Nat.lcm_eq_mul_div,Nat.div_mul_right_comm (Nat.gcd_dvd_left p d)]
 have hlD:Nat.lcm p d∣D:=Nat.lcm_dvd hpD hdD
 have hl1:Nat.lcm p d≤D:=Nat.le_of_dvd hD.2 hlD
 have hgc:Nat.gcd p d≠0:=by have:=Nat.gcd_pos_of_pos_left d hp0;omega
 have hq:p / Nat.gcd p d≤p:=Nat.div_le_self _ _
 have hw1:IntKind.i64.wrap ((p / Nat.gcd p d:Nat):Int)=((p / Nat.gcd p d:Nat):Int):=by
  generalize p / Nat.gcd p d=q at hq
  exact IntWalk.i64_in _ (by omega)
 have hw2:IntKind.i64.wrap ((Nat.lcm p d:Nat):Int)=((Nat.lcm p d:Nat):Int):=IntWalk.i64_in _ (by omega)
 have hmul:((p / Nat.gcd p d:Nat):Int) * ((d:Nat):Int)=((Nat.lcm p d:Nat):Int):=by rw [← Int.natCast_mul,hlcm]
 refine jb jd mixed Tryz.func102 rfl (by decide +kernel) ?_
 conv=>whnf
 refine Or.inl ⟨by decide +kernel,?_⟩
 conv=>whnf
 repeat ((first | (refine ⟨_,_,fun K hK=>(by (conv=>whnf);first | exact hK | exact za rfl hK | exact wa (qap p d) (wb (.int _ _) (.int _ _)) hK | exact And.intro rfl (yT p (Nat.gcd p d) rfl rfl hgc hw1 hK) | exact And.intro rfl (zi (Nat.lcm p d) hmul hw2 hK) | (refine qa rfl ?_;(conv=>whnf);exact hK)),?_⟩;first | refine Or.inl ⟨rfl,(by repeat' (first | exact True.intro | refine And.intro ?_ ?_ | exact Or.inl (by decide +kernel) | decide +kernel | exact Or.inr (fun K hK=>(by (conv=>whnf);first | exact hK | exact za rfl hK | exact wa (qap p d) (wb (.int _ _) (.int _ _)) hK | exact And.intro rfl (yT p (Nat.gcd p d) rfl rfl hgc hw1 hK) | exact And.intro rfl (zi (Nat.lcm p d) hmul hw2 hK) | (refine qa rfl ?_;(conv=>whnf);exact hK))))),?_⟩ | refine Or.inr (zo (by repeat' (first | exact True.intro | refine And.intro ?_ ?_ | exact Or.inl (by decide +kernel) | decide +kernel | exact Or.inr (fun K hK=>(by (conv=>whnf);first | exact hK | exact za rfl hK | exact wa (qap p d) (wb (.int _ _) (.int _ _)) hK | exact And.intro rfl (yT p (Nat.gcd p d) rfl rfl hgc hw1 hK) | exact And.intro rfl (zi (Nat.lcm p d) hmul hw2 hK) | (refine qa rfl ?_;(conv=>whnf);exact hK))))) ?_)));conv=>whnf)
 have hle:decide (((Nat.lcm p d:Nat):Int)≤9999)=true:=decide_eq_true (by omega)
 repeat ((first | refine za rfl ?_ | refine And.intro rfl ?_);conv=>whnf)
 rw [hle]
 exact hk
set_option maxHeartbeats 4000000 in
set_option maxRecDepth 100000 in
theorem vbH {os:List (List AV)} {oc:Option Nat} {rows:List ChR} {cc bc:Option Nat} {p0 g D:Nat} {l:List Br} (pM:Pure (.agg [.vs os oc,.vs (ja rows) cc])) (hD:D≤9999∧0 < D) (hp0:0 < p0) (hpD:p0∣D) (hl:xax os.length D l)
  (hos:os.length < 4611686018427387904) :
  CallSem Tryz.prog 103 [.ptr 0 0 0,.vs (l.map brV) bc] ⟨[ug os oc rows cc p0 g],[]⟩ fun r h'=>r=.bool true∧∃ p,(0 < p∧p∣D)∧∃ G,h'=⟨ug os oc rows cc p g :: G,[]⟩:=by
 have hlen:(l.map brV).length=l.length:=by simp
 have pL:Pure (.vs (l.map brV) bc):=.vs _ _ fun i hi j hj=>by
  have hi':i < l.length:=by simpa using hi
  have e:(l.map brV)[i]=brV l[i]:=by simp
  have hm:(l.map brV)[i][j]∈brV l[i]:=by rw [← e];exact List.getElem_mem _
  simp only [brV,List.mem_cons,List.not_mem_nil,or_false] at hm
  rcases hm with h | h <;> rw [h]
  ·exact .int _ _
  ·exact .str _
 refine jb jd mixed Tryz.func103 rfl (by decide +kernel) ?_
 conv=>whnf
 repeat ((first | refine qc hlen ?_ | refine And.intro rfl ?_);conv=>whnf)
 refine jz jd mixed 94 (fun a:Nat × Nat=>l.length - a.1) (fun a=>a.1≤l.length∧0 < a.2∧a.2∣D∧∀ b∈l.take a.1,b.d∣a.2)
  (fun a=>[(0,.ptr 0 0 0),(1,.vs (l.map brV) bc),(5,.int .i64 (ut l a.1)),(17,.vs (l.map brV) bc),(18,.int .i64 ((l.length:Nat):Int)),(19,.int .i64 ((a.1:Nat):Int))])
  (fun a=>⟨[ug os oc rows cc a.2 g],[]⟩) ?_ ?_ (0,p0) _ ⟨Nat.zero_le _,hp0,hpD,fun b hb=>by simp at hb⟩ rfl rfl ⟨rfl,rfl,rfl,rfl,rfl,rfl,trivial⟩
 ·rintro ⟨i,p⟩ -
  refine ⟨rfl,fun q hq => ?_,⟨gX (p:=p) pM g,fun l r h=>by simp [Heap.loop?] at h⟩,Nat.le_refl _⟩
  simp only [List.mem_cons,List.not_mem_nil,or_false] at hq
  rcases hq with rfl | rfl | rfl | rfl | rfl | rfl
  ·exact .ptr _ _ _ (by simp)
  ·exact pL.lt _ _
  ·exact .int _ _
  ·exact pL.lt _ _
  ·exact .int _ _
  ·exact .int _ _
 ·rintro ⟨i,p⟩ g1 ⟨i1,i2,i3,i4⟩
  simp only at i1 i2 i3 i4
  conv=>whnf
  refine yf (fun h4 => ?_) (fun h4 => ?_) <;> conv=>whnf
  ·have hi:i < l.length:=by have:((i:Nat):Int) < ((l.length:Nat):Int):=h4;omega
   obtain ⟨b,hb⟩:∃ b,l[i]=b:=⟨_,rfl⟩
   have hmem:b∈l:=hb ▸ List.getElem_mem hi
   have hbi:(l.map brV)[i]? = some [.int .i64 ((b.to:Nat):Int),.str b.p]:=by simp [hi,hb,brV]
   obtain ⟨hsm,hn1,hd0,hdD⟩:=hl.ok b hmem
   have hto:=hl.lt b hmem
   have hinc:=hl.inc i hi
   rw [hb] at hinc
   have hll:=hl.len
   refine uc i rfl hbi rfl ?_
   conv=>whnf
   repeat ((first | refine And.intro ⟨by decide,rfl⟩ ?_ | refine za rfl ?_ | refine qa rfl ?_ | refine wa hsm (vb (.str _)) ?_ | refine ua rfl ?_ | refine ya rfl ?_ | refine And.intro rfl ?_);conv=>whnf)
   have hlast:¬ ((b.to:Nat):Int)≤ut l i:=by omega
   have hcount:¬ ((b.to:Nat):Int) ≥ ((os.length:Nat):Int):=by omega
   have hone:¬ ((b.n:Nat):Int) < 1:=by omega
   refine Or.inl ⟨by decide +kernel,?_⟩
   conv=>whnf
   repeat ((first | refine ua (by rw [decide_eq_false hlast];rfl) ?_ | refine ua (by rw [decide_eq_false hcount];rfl) ?_ | refine ua (by rw [decide_eq_false hone];rfl) ?_ | refine ua rfl ?_ | (refine ⟨_,_,fun K hK=>(by (conv=>whnf);first | exact hK | exact za rfl hK | exact ya (decide_eq_false hlast) hK | exact ya (decide_eq_false hcount) hK | exact ya (decide_eq_false hone) hK | exact ya rfl hK | exact qc rfl hK | exact qm (qaJ hD i2 i3 hd0 hdD hK) | (refine qa rfl ?_;(conv=>whnf);exact hK)),?_⟩;first | refine Or.inl ⟨rfl,(by repeat' (first | exact True.intro | refine And.intro ?_ ?_ | exact Or.inl (by decide +kernel) | decide +kernel | exact Or.inr (fun K hK=>(by (conv=>whnf);first | exact hK | exact za rfl hK | exact ya (decide_eq_false hlast) hK | exact ya (decide_eq_false hcount) hK | exact ya (decide_eq_false hone) hK | exact ya rfl hK | exact qc rfl hK | exact qm (qaJ hD i2 i3 hd0 hdD hK) | (refine qa rfl ?_;(conv=>whnf);exact hK))))),?_⟩ | refine Or.inr (zo (by repeat' (first | exact True.intro | refine And.intro ?_ ?_ | exact Or.inl (by decide +kernel) | decide +kernel | exact Or.inr (fun K hK=>(by (conv=>whnf);first | exact hK | exact za rfl hK | exact ya (decide_eq_false hlast) hK | exact ya (decide_eq_false hcount) hK | exact ya (decide_eq_false hone) hK | exact ya rfl hK | exact qc rfl hK | exact qm (qaJ hD i2 i3 hd0 hdD hK) | (refine qa rfl ?_;(conv=>whnf);exact hK))))) ?_)));conv=>whnf)
   repeat ((first | refine ya rfl ?_ | refine za rfl ?_ | refine And.intro rfl ?_ | refine ub (by omega) ?_);conv=>whnf)
   have hlD:Nat.lcm p b.d∣D:=Nat.lcm_dvd i3 hdD
   refine ⟨(i + 1,Nat.lcm p b.d),[_],by show l.length - (i + 1) < l.length - i;omega,⟨hi,Nat.lcm_pos i2 hd0,hlD,fun b' hb' => ?_⟩,rfl,rfl,rfl,rfl,?_,rfl,rfl,?_,trivial⟩
   ·rw [List.take_succ_eq_append_getElem hi,hb] at hb'
    rcases List.mem_append.1 hb' with h | h
    ·exact Nat.dvd_trans (i4 b' h) (Nat.dvd_lcm_left p b.d)
    ·obtain rfl:b'=b:=by simpa using h
     exact Nat.dvd_lcm_right p b'.d
   ·show some (AV.int .i64 ((b.to:Nat):Int))=some (AV.int .i64 (ut l (i + 1)))
    simp [ut,hi,hb]
   ·show some (AV.int .i64 _)=some (AV.int .i64 _)
    congr 2
  ·have hi:¬ ((i:Nat):Int) < ((l.length:Nat):Int):=h4
   obtain rfl:i=l.length:=by omega
   rw [List.take_length] at i4
   have hsum:=hl.sum p i2 i4
   have hpD':p≤D:=Nat.le_of_dvd hD.2 i3
   have hll:=hl.len
   refine qc hlen ?_
   conv=>whnf
   refine jz jd mixed 94 (fun a:Nat=>l.length - a) (fun a=>a≤l.length)
    (fun a=>[(0,.ptr 0 0 0),(11,.int .i64 ((xf p (l.take a):Nat):Int)),(64,.vs (l.map brV) bc),(65,.int .i64 ((l.length:Nat):Int)),(66,.int .i64 ((a:Nat):Int))])
    (fun _=>⟨[ug os oc rows cc p g],[]⟩) ?_ ?_ 0 _ (Nat.zero_le _) rfl rfl ⟨rfl,rfl,rfl,rfl,rfl,trivial⟩
   ·rintro a -
    refine ⟨rfl,fun q hq => ?_,⟨gX (p:=p) pM g,fun l r h=>by simp [Heap.loop?] at h⟩,Nat.le_refl _⟩
    simp only [List.mem_cons,List.not_mem_nil,or_false] at hq
    rcases hq with rfl | rfl | rfl | rfl | rfl
    ·exact .ptr _ _ _ (by simp)
    ·exact .int _ _
    ·exact pL.lt _ _
    ·exact .int _ _
    ·exact .int _ _
   ·rintro i g2 j1
    replace j1:i≤l.length:=j1
    conv=>whnf
    refine yf (fun h5 => ?_) (fun h5 => ?_) <;> conv=>whnf
    ·have hi2:i < l.length:=by have:((i:Nat):Int) < ((l.length:Nat):Int):=h5;omega
     obtain ⟨b,hb⟩:∃ b,l[i]=b:=⟨_,rfl⟩
     have hmem:b∈l:=hb ▸ List.getElem_mem hi2
     have hbi:(l.map brV)[i]? = some [.int .i64 ((b.to:Nat):Int),.str b.p]:=by simp [hi2,hb,brV]
     obtain ⟨hsm,hn1,hd0,hdD⟩:=hl.ok b hmem
     have htake:=wa2 p l i hi2
     rw [hb] at htake
     have hle:=va2 p l (i + 1)
     rw [hsum] at hle
     refine uc i rfl hbi rfl ?_
     conv=>whnf
     have hq:p / b.d≤p:=Nat.div_le_self _ _
     have hw1:IntKind.i64.wrap ((p / b.d:Nat):Int)=((p / b.d:Nat):Int):=by
      generalize p / b.d=q at hq
      exact IntWalk.i64_in _ (by omega)
     have hterm:b.n * (p / b.d)≤p:=by omega
     have hw2:IntKind.i64.wrap ((b.n * (p / b.d):Nat):Int)=((b.n * (p / b.d):Nat):Int):=by
      generalize b.n * (p / b.d)=q at hterm
      exact IntWalk.i64_in _ (by omega)
     have hw3:IntKind.i64.wrap ((xf p (l.take (i + 1)):Nat):Int)=((xf p (l.take (i + 1)):Nat):Int):=IntWalk.i64_in _ (by omega)
     repeat ((first | refine And.intro ⟨by decide,rfl⟩ ?_ | refine za rfl ?_ | refine qa rfl ?_ | refine wa hsm (vb (.str _)) ?_ | refine And.intro rfl (yT p b.d rfl rfl (by omega) hw1 ?_) | refine And.intro rfl (zi (b.n * (p / b.d)) (Int.natCast_mul _ _).symm hw2 ?_) | refine And.intro rfl (zi (xf p (l.take (i + 1))) (by rw [htake];exact (Int.natCast_add _ _).symm) hw3 ?_) | refine And.intro rfl (ub (by omega) ?_) | refine ua rfl ?_ | refine ya rfl ?_ | refine And.intro rfl ?_);conv=>whnf)
     refine ⟨i + 1,[_],by show l.length - (i + 1) < l.length - i;omega,hi2,rfl,rfl,rfl,rfl,rfl,rfl,?_,trivial⟩
     show some (AV.int .i64 _)=some (AV.int .i64 _)
     congr 2
    ·have hi2:¬ ((i:Nat):Int) < ((l.length:Nat):Int):=h5
     obtain rfl:i=l.length:=by omega
     refine za rfl ?_
     conv=>whnf
     refine ⟨?_,p,⟨i2,i3⟩,[],rfl⟩
     rw [List.take_length,hsum]
     simp
end
end Go.Abs

namespace Go.Abs
noncomputable section
open Go.Proofs
set_option maxRecDepth 100000
theorem wba {os:List (List AV)} {oc:Option Nat} {rows:List ChR} {cc:Option Nat} {f:Fn} (h:Pure (.fn f [] [.vp [.vs os oc,.vs (ja rows) cc] 0])):Pure (.agg [.vs os oc,.vs (ja rows) cc]):=by
 cases h with
 | fn _ _ _ _ h2 =>
  have:=h2 0 (by simp)
  cases this with
  | vp _ _ h=>exact .agg _ fun i hi=>h i hi
theorem vav {os:List (List AV)} {oc:Option Nat} {rows:List ChR} {cc:Option Nat} {p g:Nat} (pM:Pure (.agg [.vs os oc,.vs (ja rows) cc])) :
  ∀ x∈[AV.vs os oc,.vs (ja rows) cc,.int .i64 ((p:Nat):Int),.int .i64 ((g:Nat):Int)],Pure x:=fun x hx=>by
 cases pM with
 | agg _ hq =>
  have h0:Pure (.vs os oc):=hq 0 (by simp)
  have h1:Pure (.vs (ja rows) cc):=hq 1 (by simp)
  simp only [List.mem_cons,List.not_mem_nil,or_false] at hx
  rcases hx with rfl | rfl | rfl | rfl
  ·exact h0
  ·exact h1
  ·exact .int _ _
  ·exact .int _ _
theorem yX (l:List Br) (bc:Option Nat):Pure (.vs (l.map brV) bc):=.vs _ _ fun i hi j hj=>by
 have hi':i < l.length:=by simpa using hi
 have e:(l.map brV)[i]=brV l[i]:=by simp
 have hm:(l.map brV)[i][j]∈brV l[i]:=by rw [← e];exact List.getElem_mem _
 simp only [brV,List.mem_cons,List.not_mem_nil,or_false] at hm
 rcases hm with h | h <;> rw [h]
 ·exact .int _ _
 ·exact .str _
theorem ubH {os:List (List AV)} {oc:Option Nat} {rows:List ChR} {cc bc:Option Nat} {p0 g D:Nat} {l:List Br} {h:Heap} {B:Nat} {K:AV→Heap→Prop} (pM:Pure (.agg [.vs os oc,.vs (ja rows) cc])) (hD:D≤9999∧0 < D) (hp0:0 < p0) (hpD:p0∣D) (hl:xax os.length D l)
  (hos:os.length < 4611686018427387904) (hb:h.blk? B=ug os oc rows cc p0 g) (hB:B < h.blks.length) (hfz:∀ (b:Nat) (rs:List (List AV)) (g fz:Bool),h.blk? b=some (.rows rs g fz)→fz=false)
  (hk:∀ p,(0 < p∧p∣D)→K (.bool true) (h.put B (.rows [[.vs os oc,.vs (ja rows) cc,.int .i64 ((p:Nat):Int),.int .i64 ((g:Nat):Int)]] false false))) :
  CallSem Tryz.prog 103 [.ptr B 0 0,.vs (l.map brV) bc] h K:=by
 refine gbu (Φ:=fun p:Nat=>0 < p∧p∣D) (row':=fun p=>[.vs os oc,.vs (ja rows) cc,.int .i64 ((p:Nat):Int),.int .i64 ((g:Nat):Int)]) (R:=.bool true) hb hB hfz (vb (yX l bc)) (vav pM) (fun _ _=>vav pM) ?_ (.bool _) hk
 refine jav (vbH (bc:=bc) pM hD hp0 hpD hl hos) rfl ?_
 rintro r h' ⟨rfl,p,hp,G,rfl⟩
 exact ⟨[ug os oc rows cc p g],G,0,rfl,Nat.le_refl _,gX pM g,.bool _,rfl,p,hp,rfl⟩
def gai (N D:Nat) (v:List AV):Prop:=∃ s a g l c,v=[.int .i64 s,.agg [.str a,.str g,.vs (l.map brV) c]]∧xax N D l
set_option maxHeartbeats 4000000 in
set_option maxRecDepth 100000 in
theorem wce {rows:List ChR} {os:List (List AV)} {oc cc:Option Nat} {p0 g D:Nat} (ho:∀ r∈os,∀ x∈r,Pure x) (hc:∀ r∈rows,∀ ch∈r.1,ChC ch) (hn:rows.length < 4611686018427387904) (hn2:∀ r∈rows,r.1.length < 4611686018427387904)
  (hos:os.length < 4611686018427387904) (hD:D≤9999∧0 < D) (hv:∀ v∈jp 0 rows,gai os.length D v) :
  CallSem Tryz.prog 80 [.ptr 0 0 0] ⟨[ug os oc rows cc p0 g],[]⟩ fun r h'=>r=.bool true∧∃ p G,h'=⟨ug os oc rows cc p g :: G,[none]⟩:=by
 have hall:=uai (oc:=oc) (cc:=cc) ho hc
 have hit:=jaW (O:=.vs os oc) (cc:=cc) hc hn hn2
 have pM:=wba hall.pure
 refine jb jd mixed Tryz.func80 rfl (by decide +kernel) ?_
 conv=>whnf
 repeat ((first | refine And.intro ⟨rfl,by decide,rfl⟩ ?_ | refine And.intro ⟨by decide,rfl⟩ ?_ | refine za rfl ?_ | refine qa rfl ?_ | refine wa hall (vb pM) ?_);conv=>whnf)
 refine wab hit rfl (fun _ h=>by cases h) (fun vs B=>(∀ v∈vs,gai os.length D v)∧∃ p,0 < p∧p∣D∧B=[ug os oc rows cc p g,some (.rows [[.ptr 0 0 0]] false false),some (.rows [[.bool false]] false false)])
  ⟨hv,1,by omega,Nat.one_dvd _,rfl⟩ (yaq (p:=1) pM g) ?_ ?_
 ·rintro v vs B ⟨hv',p,hp0,hpD,rfl⟩ -
  obtain ⟨s,a,gq,l,c,rfl,hl⟩:=hv' _ List.mem_cons_self
  have pCh:Pure (.agg [.str a,.str gq,.vs (l.map brV) c]):=.agg _ fun i hi=>by
   match i,hi with
   | 0,_=>exact .str _
   | 1,_=>exact .str _
   | 2,_=>exact yX l c
  refine ⟨rfl,fun x hx => ?_,fun r=>zn jd mixed ?_⟩
  ·simp only [List.mem_cons,List.not_mem_nil,or_false] at hx
   rcases hx with rfl | rfl
   ·exact .int _ _
   ·exact pCh
  conv=>whnf
  repeat ((first | refine And.intro ⟨by decide,rfl⟩ ?_ | refine za rfl ?_ | refine qa rfl ?_);conv=>whnf)
  refine ⟨rfl,_,rfl,fun r'=>zn jd mixed ?_⟩
  conv=>whnf
  repeat ((first | refine za rfl ?_ | refine qa rfl ?_ | refine And.intro rfl ?_);conv=>whnf)
  refine qm (ubH pM hD hp0 hpD hl hos rfl (by simp) (qQ rfl) fun p' hp' => ?_)
  conv=>whnf
  repeat ((first | refine ya rfl ?_ | refine And.intro rfl ?_);conv=>whnf)
  exact ⟨[ug os oc rows cc p' g,_,_],[_],rfl,rfl,yaq (p:=p') pM _,fun v hv=>hv' v (List.mem_cons_of_mem _ hv),p',hp'.1,hp'.2,rfl⟩
 ·rintro B ⟨-,p,hp0,hpD,rfl⟩ -
  conv=>whnf
  repeat ((first | refine za rfl ?_ | refine qa rfl ?_ | refine And.intro rfl ?_);conv=>whnf)
  exact ⟨p,_,rfl⟩
end
end Go.Abs

namespace Go.Abs
noncomputable section
open Go.Proofs
def osV (os:List Nat):List (List AV):=os.map fun o=>[.int .i64 ((o:Nat):Int)]
def byV (a:List UInt8):List (List AV):=a.map fun b=>[.int .u8 b.toNat]
theorem gy (g:FuncId):Pure (.fn (.func g) [] []):=.fn _ _ _ (fun i hi=>by simp at hi) fun i hi=>by simp at hi
theorem wb2 {l:List Nat} {c:Option Nat} {g:FuncId} (hl:l.length < 4611686018427387904) (hp:Pure (.vs (osV l) c)) (hg:∀ z∈l,zb Tryz.prog g [.int .i64 ((z:Nat):Int)] (.bool false)) (hz:∀ z∈l,Pure (.int .i64 ((z:Nat):Int))) :
  zb Tryz.prog 116 [.vs (osV l) c,.fn (.func g) [] []] (.int .i64 (-1)):=by
 have hlen:(osV l).length=l.length:=by simp [osV]
 refine yc (wb hp (gy g)) (.int _ _) (jb jd mixed Tryz.func116 rfl (by decide +kernel) ?_)
 conv=>whnf
 refine qc hlen ?_
 conv=>whnf
 refine gf jd mixed 19 (fun i:Nat=>l.length - i) (fun i=>i≤l.length) (fun i=>[(0,.vs (osV l) c),(1,.fn (.func g) [] []),(7,.int .i64 ((l.length:Nat):Int)),(8,.int .i64 ((i:Nat):Int))])
  (fun _=>⟨[],[]⟩) ?_ 0 _ (Nat.zero_le _) rfl rfl ⟨rfl,rfl,rfl,rfl,trivial⟩
 rintro i g1 i1
 replace i1:i≤l.length:=i1
 conv=>whnf
 refine yf (fun h4 => ?_) (fun h4 => ?_) <;> conv=>whnf
 ·have hi:i < l.length:=by have:((i:Nat):Int) < ((l.length:Nat):Int):=h4;omega
  obtain ⟨z,hzi⟩:∃ z,l[i]=z:=⟨_,rfl⟩
  have hm:z∈l:=hzi ▸ List.getElem_mem hi
  have hbi:(osV l)[i]? = some [.int .i64 ((z:Nat):Int)]:=by simp [osV,hi,hzi]
  refine uc i rfl hbi rfl ?_
  conv=>whnf
  repeat ((first | refine wa (hg z hm) (vb (hz z hm)) ?_ | refine ya rfl ?_ | refine za rfl ?_ | refine And.intro rfl (ub (by omega) ?_));conv=>whnf)
  refine ⟨i + 1,by show l.length - (i + 1) < l.length - i;omega,hi,rfl,rfl,rfl,rfl,rfl,?_,trivial⟩
  show some (AV.int .i64 _)=some (AV.int .i64 _)
  congr 2
 ·exact .pure _ (.int _ _)
theorem wcb {l:List Nat} {c:Option Nat} {g:FuncId} (hl:l.length < 4611686018427387904) (hp:Pure (.vs (osV l) c)) (hg:∀ z∈l,zb Tryz.prog g [.int .i64 ((z:Nat):Int)] (.bool false)) (hz:∀ z∈l,Pure (.int .i64 ((z:Nat):Int))) :
  zb Tryz.prog 97 [.vs (osV l) c,.fn (.func g) [] []] (.bool false):=by
 have hi:=wb2 hl hp hg hz
 refine yc (wb hp (gy g)) (.bool _) (jb jd mixed Tryz.func97 rfl (by decide +kernel) ?_)
 conv=>whnf
 refine wa hi (wb hp (gy g)) ?_
 conv=>whnf
 exact .pure _ (.bool _)
theorem vb2 {l:List UInt8} {c:Option Nat} {g:FuncId} (hl:l.length < 4611686018427387904) (hp:Pure (.vs (byV l) c)) (hg:∀ z∈l,zb Tryz.prog g [.int .u8 z.toNat] (.bool false)) (hz:∀ z∈l,Pure (.int .u8 z.toNat)) :
  zb Tryz.prog 117 [.vs (byV l) c,.fn (.func g) [] []] (.int .i64 (-1)):=by
 have hlen:(byV l).length=l.length:=by simp [byV]
 refine yc (wb hp (gy g)) (.int _ _) (jb jd mixed Tryz.func117 rfl (by decide +kernel) ?_)
 conv=>whnf
 refine qc hlen ?_
 conv=>whnf
 refine gf jd mixed 19 (fun i:Nat=>l.length - i) (fun i=>i≤l.length) (fun i=>[(0,.vs (byV l) c),(1,.fn (.func g) [] []),(7,.int .i64 ((l.length:Nat):Int)),(8,.int .i64 ((i:Nat):Int))])
  (fun _=>⟨[],[]⟩) ?_ 0 _ (Nat.zero_le _) rfl rfl ⟨rfl,rfl,rfl,rfl,trivial⟩
 rintro i g1 i1
 replace i1:i≤l.length:=i1
 conv=>whnf
 refine yf (fun h4 => ?_) (fun h4 => ?_) <;> conv=>whnf
 ·have hi:i < l.length:=by have:((i:Nat):Int) < ((l.length:Nat):Int):=h4;omega
  obtain ⟨z,hzi⟩:∃ z,l[i]=z:=⟨_,rfl⟩
  have hm:z∈l:=hzi ▸ List.getElem_mem hi
  have hbi:(byV l)[i]? = some [.int .u8 z.toNat]:=by simp [byV,hi,hzi]
  refine uc i rfl hbi rfl ?_
  conv=>whnf
  repeat ((first | refine wa (hg z hm) (vb (hz z hm)) ?_ | refine ya rfl ?_ | refine za rfl ?_ | refine And.intro rfl (ub (by omega) ?_));conv=>whnf)
  refine ⟨i + 1,by show l.length - (i + 1) < l.length - i;omega,hi,rfl,rfl,rfl,rfl,rfl,?_,trivial⟩
  show some (AV.int .i64 _)=some (AV.int .i64 _)
  congr 2
 ·exact .pure _ (.int _ _)
theorem vcb {l:List UInt8} {c:Option Nat} {g:FuncId} (hl:l.length < 4611686018427387904) (hp:Pure (.vs (byV l) c)) (hg:∀ z∈l,zb Tryz.prog g [.int .u8 z.toNat] (.bool false)) (hz:∀ z∈l,Pure (.int .u8 z.toNat)) :
  zb Tryz.prog 99 [.vs (byV l) c,.fn (.func g) [] []] (.bool false):=by
 have hi:=vb2 hl hp hg hz
 refine yc (wb hp (gy g)) (.bool _) (jb jd mixed Tryz.func99 rfl (by decide +kernel) ?_)
 conv=>whnf
 refine wa hi (wb hp (gy g)) ?_
 conv=>whnf
 exact .pure _ (.bool _)
theorem xb2 {l:List ChR} {c:Option Nat} {g:FuncId} (hl:l.length < 4611686018427387904) (hp:Pure (.vs (ja l) c)) (hg:∀ z∈l,zb Tryz.prog g [.vs z.1 z.2] (.bool false)) (hz:∀ z∈l,Pure (.vs z.1 z.2)) :
  zb Tryz.prog 115 [.vs (ja l) c,.fn (.func g) [] []] (.int .i64 (-1)):=by
 have hlen:(ja l).length=l.length:=by simp [ja]
 refine yc (wb hp (gy g)) (.int _ _) (jb jd mixed Tryz.func115 rfl (by decide +kernel) ?_)
 conv=>whnf
 refine qc hlen ?_
 conv=>whnf
 refine gf jd mixed 19 (fun i:Nat=>l.length - i) (fun i=>i≤l.length) (fun i=>[(0,.vs (ja l) c),(1,.fn (.func g) [] []),(7,.int .i64 ((l.length:Nat):Int)),(8,.int .i64 ((i:Nat):Int))])
  (fun _=>⟨[],[]⟩) ?_ 0 _ (Nat.zero_le _) rfl rfl ⟨rfl,rfl,rfl,rfl,trivial⟩
 rintro i g1 i1
 replace i1:i≤l.length:=i1
 conv=>whnf
 refine yf (fun h4 => ?_) (fun h4 => ?_) <;> conv=>whnf
 ·have hi:i < l.length:=by have:((i:Nat):Int) < ((l.length:Nat):Int):=h4;omega
  obtain ⟨z,hzi⟩:∃ z,l[i]=z:=⟨_,rfl⟩
  have hm:z∈l:=hzi ▸ List.getElem_mem hi
  have hbi:(ja l)[i]? = some [.vs z.1 z.2]:=by simp [ja,hi,hzi]
  refine uc i rfl hbi rfl ?_
  conv=>whnf
  repeat ((first | refine wa (hg z hm) (vb (hz z hm)) ?_ | refine ya rfl ?_ | refine za rfl ?_ | refine And.intro rfl (ub (by omega) ?_));conv=>whnf)
  refine ⟨i + 1,by show l.length - (i + 1) < l.length - i;omega,hi,rfl,rfl,rfl,rfl,rfl,?_,trivial⟩
  show some (AV.int .i64 _)=some (AV.int .i64 _)
  congr 2
 ·exact .pure _ (.int _ _)
theorem xcb {l:List ChR} {c:Option Nat} {g:FuncId} (hl:l.length < 4611686018427387904) (hp:Pure (.vs (ja l) c)) (hg:∀ z∈l,zb Tryz.prog g [.vs z.1 z.2] (.bool false)) (hz:∀ z∈l,Pure (.vs z.1 z.2)) :
  zb Tryz.prog 95 [.vs (ja l) c,.fn (.func g) [] []] (.bool false):=by
 have hi:=xb2 hl hp hg hz
 refine yc (wb hp (gy g)) (.bool _) (jb jd mixed Tryz.func95 rfl (by decide +kernel) ?_)
 conv=>whnf
 refine wa hi (wb hp (gy g)) ?_
 conv=>whnf
 exact .pure _ (.bool _)
end
end Go.Abs

namespace Go.Abs
noncomputable section
open Go.Proofs
set_option maxRecDepth 100000
theorem ubQ {o:Nat} (ho:o=0∨o=1):zb Tryz.prog 98 [.int .i64 ((o:Nat):Int)] (.bool false):=by
 refine yc (vb (.int _ _)) (.bool _) (jb jd mixed Tryz.func98 rfl (by decide +kernel) ?_)
 rcases ho with rfl | rfl
 all_goals
  conv=>whnf
  repeat ((first | refine ua rfl ?_ | refine ya rfl ?_ | refine And.intro rfl ?_);conv=>whnf)
  exact .pure _ (.bool _)
theorem qbJ {cs:List (List AV)} {cap:Option Nat} (hp:Pure (.vs cs cap)) (h1:1≤cs.length∧cs.length≤4):zb Tryz.prog 96 [.vs cs cap] (.bool false):=by
 have e1:¬ ((cs.length:Nat):Int) < 1:=by omega
 have e2:¬ ((cs.length:Nat):Int) > 4:=by omega
 refine yc (vb hp) (.bool _) (jb jd mixed Tryz.func96 rfl (by decide +kernel) ?_)
 conv=>whnf
 repeat ((first | refine qc rfl ?_ | refine ua (by rw [decide_eq_false e1];rfl) ?_ | refine ya (decide_eq_false e1) ?_ | refine ya (decide_eq_false e2) ?_ | refine ua rfl ?_ | refine ya rfl ?_ | refine And.intro rfl ?_);conv=>whnf)
 rw [decide_eq_false e2]
 exact .pure _ (.bool _)
theorem vbX {b:UInt8} (h:97≤b.toNat∧b.toNat≤122):zb Tryz.prog 100 [.int .u8 b.toNat] (.bool false):=by
 have e1:¬ ((b.toNat:Nat):Int) < 97:=by omega
 have e2:¬ ((b.toNat:Nat):Int) > 122:=by omega
 refine yc (vb (.int _ _)) (.bool _) (jb jd mixed Tryz.func100 rfl (by decide +kernel) ?_)
 conv=>whnf
 repeat ((first | refine ua (by rw [decide_eq_false e1];rfl) ?_ | refine ya (decide_eq_false e1) ?_ | refine ya (decide_eq_false e2) ?_ | refine ua rfl ?_ | refine ya rfl ?_ | refine And.intro rfl ?_);conv=>whnf)
 rw [decide_eq_false e2]
 exact .pure _ (.bool _)
theorem jci {a:List UInt8} (h:a.length≤8) (hb:∀ b∈a,97≤b.toNat∧b.toNat≤122):ubz a:=by
 refine ⟨h,vcb (c:=none) (by omega) ?_ (fun z hz=>vbX (hb z hz)) (fun z hz=>.int _ _)⟩
 refine .vs _ _ fun i hi j hj => ?_
 have hi':i < a.length:=by simpa [byV] using hi
 have e:(byV a)[i]=[.int .u8 a[i].toNat]:=by simp [byV]
 have hm:(byV a)[i][j]∈[AV.int .u8 a[i].toNat]:=by rw [← e];exact List.getElem_mem _
 rw [List.mem_singleton.1 hm]
 exact .int _ _
theorem wi (os:List Nat) (oc:Option Nat):Pure (.vs (osV os) oc):=.vs _ _ fun i hi j hj=>by
 have hi':i < os.length:=by simpa [osV] using hi
 have e:(osV os)[i]=[.int .i64 ((os[i]:Nat):Int)]:=by simp [osV]
 have hm:(osV os)[i][j]∈[AV.int .i64 ((os[i]:Nat):Int)]:=by rw [← e];exact List.getElem_mem _
 rw [List.mem_singleton.1 hm]
 exact .int _ _
theorem vbQ {rows:List ChR} {os:List Nat} {oc cc:Option Nat} {p g:Nat} (ho:∀ o∈os,o=0∨o=1) (hn:os.length < 4611686018427387904) :
  CallSem Tryz.prog 77 [.ptr 0 0 0] ⟨[ug (osV os) oc rows cc p g],[]⟩ fun r h'=>r=.bool true∧h'=⟨[ug (osV os) oc rows cc p g],[]⟩:=by
 have hc:=wcb (c:=oc) hn (wi os oc) (fun z hz=>ubQ (ho z hz)) (fun z hz=>.int _ _)
 refine jb jd mixed Tryz.func77 rfl (by decide +kernel) ?_
 conv=>whnf
 repeat ((first | refine za rfl ?_ | refine wa hc (wb (wi os oc) (gy _)) ?_ | refine And.intro rfl ?_);conv=>whnf)
set_option maxHeartbeats 2000000 in
set_option maxRecDepth 100000 in
theorem jbJ {rows:List ChR} {os:List Nat} {oc cc:Option Nat} {p g:Nat} (pM:Pure (.agg [.vs (osV os) oc,.vs (ja rows) cc])) (hn:1≤os.length∧os.length≤12) (hr:rows.length=os.length) (hc1:∀ r∈rows,1≤r.1.length∧r.1.length≤4) (hpr:∀ r∈rows,Pure (.vs r.1 r.2)) :
  CallSem Tryz.prog 76 [.ptr 0 0 0] ⟨[ug (osV os) oc rows cc p g],[]⟩ fun r h'=>r=.bool true∧h'=⟨[ug (osV os) oc rows cc p g],[]⟩:=by
 have pR:Pure (.vs (ja rows) cc):=by
  cases pM with
  | agg _ hq=>exact hq 1 (by simp)
 have hc:=xcb (c:=cc) (by omega) pR (fun z hz=>qbJ (hpr z hz) (hc1 z hz)) hpr
 have hlo:(osV os).length=os.length:=by simp [osV]
 have hlr:(ja rows).length=os.length:=by simp [ja,hr]
 have e1:((os.length:Nat):Int) ≥ 1:=by omega
 have e2:((os.length:Nat):Int)≤12:=by omega
 refine jb jd mixed Tryz.func76 rfl (by decide +kernel) ?_
 conv=>whnf
 refine Or.inl ⟨by decide +kernel,?_⟩
 conv=>whnf
 repeat ((first | refine ua (by rw [decide_eq_true e1];rfl) ?_ | refine ua (by rw [decide_eq_true e2];rfl) ?_ | refine ua (by simp) ?_ | refine ua rfl ?_ | (refine ⟨_,_,fun K hK=>(by (conv=>whnf);first | exact hK | exact za rfl hK | exact ua (decide_eq_true e1) hK | exact ua (decide_eq_true e2) hK | exact ua (by simp) hK | exact ua rfl hK | exact qc hlo hK | exact qc hlr hK | exact wa hc (wb pR (gy _)) hK | (refine qa rfl ?_;(conv=>whnf);exact hK)),?_⟩;first | exact Or.inl ⟨rfl,trivial,?_⟩ | refine Or.inl ⟨rfl,trivial,?_⟩ | refine Or.inr ⟨trivial,(by repeat' (first | exact True.intro | refine And.intro ?_ ?_ | exact Or.inl (by decide +kernel))),?_⟩));conv=>whnf)
 exact ⟨rfl,rfl⟩
end
end Go.Abs

namespace Go.Abs
noncomputable section
open Go.Proofs
def x8 (f:FuncId) (os:List Nat) (oc:Option Nat) (rows:List ChR) (cc:Option Nat):Prop :=
 ∀ p g,CallSem Tryz.prog f [.ptr 0 0 0] ⟨[ug (osV os) oc rows cc p g],[]⟩ fun r h'=>r=.bool true∧∃ q:Nat × Nat,h'=⟨[ug (osV os) oc rows cc q.1 q.2],[]⟩
theorem yab {f:FuncId} {os:List Nat} {oc:Option Nat} {rows:List ChR} {cc:Option Nat} {p g B:Nat} {h:Heap} {K:AV→Heap→Prop} (hR:x8 f os oc rows cc) (pM:Pure (.agg [.vs (osV os) oc,.vs (ja rows) cc]))
  (hb:h.blk? B=ug (osV os) oc rows cc p g) (hB:B < h.blks.length) (hfz:∀ (b:Nat) (rs:List (List AV)) (g fz:Bool),h.blk? b=some (.rows rs g fz)→fz=false)
  (hk:∀ p g:Nat,K (.bool true) (h.put B (.rows [[.vs (osV os) oc,.vs (ja rows) cc,.int .i64 ((p:Nat):Int),.int .i64 ((g:Nat):Int)]] false false))):CallSem Tryz.prog f [.ptr B 0 0] h K :=
 gbu (Φ:=fun _:Nat × Nat=>True) (row':=fun q=>[.vs (osV os) oc,.vs (ja rows) cc,.int .i64 ((q.1:Nat):Int),.int .i64 ((q.2:Nat):Int)]) (R:=.bool true) hb hB hfz (fun _ h=>by simp at h) (vav pM) (fun _ _=>vav pM)
  ((hR p g).mono fun r h' ⟨h1,q,h2⟩=>⟨h1,q,trivial,h2⟩) (.bool _) fun q _=>hk q.1 q.2
structure ValidM (os:List Nat) (rows:List ChR):Prop where
 states:1≤os.length∧os.length≤12
 owners:∀ o∈os,o=0∨o=1
 width:rows.length=os.length
 count:∀ r∈rows,1≤r.1.length∧r.1.length≤4
 names:∀ v∈jp 0 rows,vaX v
 gains:∃ D,(D≤9999∧0 < D)∧∀ v∈jp 0 rows,gaX D v
 branches:∃ D,(D≤9999∧0 < D)∧∀ v∈jp 0 rows,gai os.length D v
 cells:∀ r∈rows,∀ ch∈r.1,ChC ch
theorem ValidM.chs {os:List Nat} {rows:List ChR} (h:ValidM os rows):∀ r∈rows,r.1.length < 4611686018427387904:=fun r hr=>by have:=h.count r hr;omega
theorem yC {os:List Nat}:∀ r∈osV os,∀ x∈r,Pure x:=fun r hr x hx=>by
 obtain ⟨o,_,rfl⟩:=List.mem_map.1 hr
 rw [List.mem_singleton.1 hx];exact .int _ _
theorem ybP {rows:List ChR} (hc:∀ r∈rows,∀ ch∈r.1,ChC ch):∀ r∈rows,Pure (.vs r.1 r.2):=fun r hr=>.vs _ _ fun p hp q hq=>by
 obtain ⟨a,g,ns,c,hch,hns⟩:=hc r hr _ (List.getElem_mem hp)
 have hm:r.1[p][q]∈[AV.str a,.str g,.vs ns c]:=by rw [← hch];exact List.getElem_mem _
 simp only [List.mem_cons,List.not_mem_nil,or_false] at hm
 rcases hm with h | h | h <;> rw [h]
 ·exact .str _
 ·exact .str _
 ·exact .vs _ _ fun x hx y hy=>hns _ (List.getElem_mem hx) _ (List.getElem_mem hy)
theorem zbM {os:List Nat} {oc:Option Nat} {rows:List ChR} {cc:Option Nat} (h:ValidM os rows) (pM:Pure (.agg [.vs (osV os) oc,.vs (ja rows) cc])):x8 76 os oc rows cc:=fun p g =>
 (jbJ pM h.states h.width h.count (ybP h.cells)).mono fun _ _ ⟨h1,h2⟩=>⟨h1,(p,g),h2⟩
theorem ybM {os:List Nat} {oc:Option Nat} {rows:List ChR} {cc:Option Nat} (h:ValidM os rows):x8 77 os oc rows cc:=fun p g =>
 (vbQ h.owners (by have:=h.states;omega)).mono fun _ _ ⟨h1,h2⟩=>⟨h1,(p,g),h2⟩
theorem xbM {os:List Nat} {oc:Option Nat} {rows:List ChR} {cc:Option Nat} (h:ValidM os rows) (pM:Pure (.agg [.vs (osV os) oc,.vs (ja rows) cc])):x8 78 os oc rows cc:=fun p g=>by
 refine jav (wbX yC h.cells (by have:=h.states;have:=h.width;omega) h.chs h.names) rfl ?_
 rintro r h' ⟨rfl,G,rfl⟩
 exact ⟨[ug (osV os) oc rows cc p g],G,1,rfl,Nat.le_refl _,gX (p:=p) pM g,.bool _,rfl,(p,g),rfl⟩
theorem wbM {os:List Nat} {oc:Option Nat} {rows:List ChR} {cc:Option Nat} (h:ValidM os rows) (pM:Pure (.agg [.vs (osV os) oc,.vs (ja rows) cc])):x8 79 os oc rows cc:=fun p g=>by
 obtain ⟨D,hD,hv⟩:=h.gains
 refine jav (gb5 yC h.cells (by have:=h.states;have:=h.width;omega) h.chs hD hv) rfl ?_
 rintro r h' ⟨rfl,g',G,rfl⟩
 exact ⟨[ug (osV os) oc rows cc p g'],G,1,rfl,Nat.le_refl _,gX (p:=p) pM g',.bool _,rfl,(p,g'),rfl⟩
theorem vbM {os:List Nat} {oc:Option Nat} {rows:List ChR} {cc:Option Nat} (h:ValidM os rows) (pM:Pure (.agg [.vs (osV os) oc,.vs (ja rows) cc])):x8 80 os oc rows cc:=fun p g=>by
 obtain ⟨D,hD,hv⟩:=h.branches
 have hlen:(osV os).length=os.length:=by simp [osV]
 refine jav (wce yC h.cells (by have:=h.states;have:=h.width;omega) h.chs (by rw [hlen];have:=h.states;omega) hD (by rw [hlen];exact hv)) rfl ?_
 rintro r h' ⟨rfl,p',G,rfl⟩
 exact ⟨[ug (osV os) oc rows cc p' g],G,1,rfl,Nat.le_refl _,gX (p:=p') pM g,.bool _,rfl,(p',g),rfl⟩
set_option maxHeartbeats 4000000 in
set_option maxRecDepth 100000 in
theorem qbt {os:List Nat} {oc:Option Nat} {rows:List ChR} {cc:Option Nat} (h:ValidM os rows):zb Tryz.prog 39 [.agg [.vs (osV os) oc,.vs (ja rows) cc]] (.int .i64 0):=by
 have hall:=uai (oc:=oc) (cc:=cc) (yC (os:=os)) h.cells
 have pM:=wba hall.pure
 refine yc (vb pM) (.int _ _) (jb jd mixed Tryz.func39 rfl (by decide +kernel) ?_)
 conv=>whnf
 repeat ((first | refine And.intro ⟨rfl,by decide,rfl⟩ ?_ | refine And.intro ⟨by decide,rfl⟩ ?_ | refine za rfl ?_ | refine qa rfl ?_);conv=>whnf)
 refine qm (jb jd mixed Tryz.func57 rfl (by decide +kernel) ?_)
 conv=>whnf
 repeat ((first | refine And.intro ⟨rfl,by decide,rfl⟩ ?_ | refine And.intro ⟨by decide,rfl⟩ ?_ | refine za rfl ?_ | refine qa rfl ?_);conv=>whnf)
 refine zV (zn jd mixed ?_)
 conv=>whnf
 repeat ((first | refine And.intro ⟨rfl,by decide,rfl⟩ ?_ | refine And.intro ⟨by decide,rfl⟩ ?_ | refine za rfl ?_ | refine qa rfl ?_);conv=>whnf)
 refine xE (zn jd mixed ?_)
 conv=>whnf
 repeat ((first | refine ua rfl ?_ | refine ya rfl ?_ | refine And.intro rfl ?_ | refine And.intro ⟨by decide,by decide⟩ ⟨_,rfl,?_⟩);conv=>whnf)
 refine qm (yab (zbM h pM) pM rfl (by simp) (qQ rfl) fun p0 g0 => ?_)
 conv=>whnf
 repeat ((first | refine ua rfl ?_ | refine ya rfl ?_ | refine And.intro rfl (ub (by omega) ?_) | refine And.intro rfl ?_);conv=>whnf)
 refine xE (zn jd mixed ?_)
 conv=>whnf
 repeat ((first | refine ua rfl ?_ | refine ya rfl ?_ | refine And.intro rfl ?_ | refine And.intro ⟨by decide,by decide⟩ ⟨_,rfl,?_⟩);conv=>whnf)
 refine qm (yab (ybM h) pM rfl (by simp) (qQ rfl) fun p1 g1 => ?_)
 conv=>whnf
 repeat ((first | refine ua rfl ?_ | refine ya rfl ?_ | refine And.intro rfl (ub (by omega) ?_) | refine And.intro rfl ?_);conv=>whnf)
 refine xE (zn jd mixed ?_)
 conv=>whnf
 repeat ((first | refine ua rfl ?_ | refine ya rfl ?_ | refine And.intro rfl ?_ | refine And.intro ⟨by decide,by decide⟩ ⟨_,rfl,?_⟩);conv=>whnf)
 refine qm (yab (xbM h pM) pM rfl (by simp) (qQ rfl) fun p2 g2 => ?_)
 conv=>whnf
 repeat ((first | refine ua rfl ?_ | refine ya rfl ?_ | refine And.intro rfl (ub (by omega) ?_) | refine And.intro rfl ?_);conv=>whnf)
 refine xE (zn jd mixed ?_)
 conv=>whnf
 repeat ((first | refine ua rfl ?_ | refine ya rfl ?_ | refine And.intro rfl ?_ | refine And.intro ⟨by decide,by decide⟩ ⟨_,rfl,?_⟩);conv=>whnf)
 refine qm (yab (wbM h pM) pM rfl (by simp) (qQ rfl) fun p3 g3 => ?_)
 conv=>whnf
 repeat ((first | refine ua rfl ?_ | refine ya rfl ?_ | refine And.intro rfl (ub (by omega) ?_) | refine And.intro rfl ?_);conv=>whnf)
 refine xE (zn jd mixed ?_)
 conv=>whnf
 repeat ((first | refine ua rfl ?_ | refine ya rfl ?_ | refine And.intro rfl ?_ | refine And.intro ⟨by decide,by decide⟩ ⟨_,rfl,?_⟩);conv=>whnf)
 refine qm (yab (vbM h pM) pM rfl (by simp) (qQ rfl) fun p4 g4 => ?_)
 conv=>whnf
 repeat ((first | refine ua rfl ?_ | refine ya rfl ?_ | refine And.intro rfl (ub (by omega) ?_) | refine And.intro rfl ?_);conv=>whnf)
 refine xE (zn jd mixed ?_)
 conv=>whnf
 repeat ((first | refine ua rfl ?_ | refine ya rfl ?_ | refine And.intro rfl ?_);conv=>whnf)
 exact .pure _ (.int _ _)
end
end Go.Abs
