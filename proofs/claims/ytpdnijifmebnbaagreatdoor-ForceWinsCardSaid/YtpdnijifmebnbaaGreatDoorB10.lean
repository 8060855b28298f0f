/-
  Steps to a law of this program: AbsFrame, AbsEval4.
  Conditions: none.
-/
import Derived.Test.YtpdnijifmebnbaaGreatDoorB9
set_option linter.unusedVariables false
set_option linter.unusedSimpArgs false
set_option linter.unusedSectionVars false
namespace Go.Abs
noncomputable section
inductive N8 (α:Type) where
 | mk (a0 a1 a2 a3 a4 a5 a6 a7:α)
inductive D8 where
 | d0 | d1 | d2 | d3 | d4 | d5 | d6 | d7
def toD (n:Nat):D8:=match n with
 | 0=>.d0
 | 1=>.d1
 | 2=>.d2
 | 3=>.d3
 | 4=>.d4
 | 5=>.d5
 | 6=>.d6
 | _=>.d7
def D8.nat:D8→Nat
 | .d0=>0 | .d1=>1 | .d2=>2 | .d3=>3 | .d4=>4 | .d5=>5 | .d6=>6 | .d7=>7
theorem za1 {n:Nat} (h:n < 8):(toD n).nat=n:=by
 match n,h with
 | 0,_=>rfl
 | 1,_=>rfl
 | 2,_=>rfl
 | 3,_=>rfl
 | 4,_=>rfl
 | 5,_=>rfl
 | 6,_=>rfl
 | 7,_=>rfl
noncomputable def qg (n:Nat):D8 :=
  Nat.rec (motive:=fun _=>D8) .d0 (fun p _=>Nat.rec (motive:=fun _=>D8) .d1 (fun p _=>Nat.rec (motive:=fun _=>D8) .d2 (fun p _=>Nat.rec (motive:=fun _=>D8) .d3
   (fun p _=>Nat.rec (motive:=fun _=>D8) .d4 (fun p _=>Nat.rec (motive:=fun _=>D8) .d5 (fun p _=>Nat.rec (motive:=fun _=>D8) .d6 (fun _ _=>.d7) p) p) p) p) p) p) n
theorem vU (n:Nat):qg n=toD n:=by
 match n with
 | 0=>rfl
 | 1=>rfl
 | 2=>rfl
 | 3=>rfl
 | 4=>rfl
 | 5=>rfl
 | 6=>rfl
 | n + 7=>rfl
theorem d_s (i:Nat):qg i=toD (i / 1):=by rw [vU,Nat.div_one]
theorem d_a (i:Nat):qg (Nat.div i (nat_lit 8))=toD (i / 8):=vU _
theorem d_b (i:Nat):qg (Nat.mod i (nat_lit 8))=toD (i % 8 / 1):=by rw [Nat.div_one];exact vU _
theorem d_x (i:Nat):qg (Nat.div i (nat_lit 64))=toD (i / 64):=vU _
theorem d_y (i:Nat):qg (Nat.div (Nat.mod i (nat_lit 64)) (nat_lit 8))=toD (i % 64 / 8):=vU _
theorem d_z (i:Nat):qg (Nat.mod i (nat_lit 8))=toD (i % 64 % 8 / 1):=by rw [Nat.div_one,Nat.mod_mod_of_dvd i (by decide:8∣64)];exact vU _
section
variable {α R:Type}
def N8.list:N8 α→List α
 | .mk a0 a1 a2 a3 a4 a5 a6 a7=>[a0,a1,a2,a3,a4,a5,a6,a7]
def N8.get:N8 α→D8→α
 | .mk a0 a1 a2 a3 a4 a5 a6 a7,d=>match d with
  | .d0=>a0 | .d1=>a1 | .d2=>a2 | .d3=>a3 | .d4=>a4 | .d5=>a5 | .d6=>a6 | .d7=>a7
def N8.upd:N8 α→D8→α→N8 α
 | .mk a0 a1 a2 a3 a4 a5 a6 a7,d,x=>match d with
  | .d0=>.mk x a1 a2 a3 a4 a5 a6 a7 | .d1=>.mk a0 x a2 a3 a4 a5 a6 a7 | .d2=>.mk a0 a1 x a3 a4 a5 a6 a7 | .d3=>.mk a0 a1 a2 x a4 a5 a6 a7
  | .d4=>.mk a0 a1 a2 a3 x a5 a6 a7 | .d5=>.mk a0 a1 a2 a3 a4 x a6 a7 | .d6=>.mk a0 a1 a2 a3 a4 a5 x a7 | .d7=>.mk a0 a1 a2 a3 a4 a5 a6 x
theorem N8.get_list (c:N8 α) (d:D8):c.list[d.nat]? = some (c.get d):=by
 cases c;cases d <;> rfl
theorem N8.upd_list (c:N8 α) (d:D8) (x:α):(c.upd d x).list=c.list.set d.nat x:=by
 cases c;cases d <;> rfl
theorem N8.len (c:N8 α):c.list.length=8:=by cases c;rfl
def qbP (d:D8) (c:N8 α) (k:α→Option R):Option R:=k (c.get d)
noncomputable def pick (d:D8):N8 α→(α→Option R)→Option R :=
  D8.rec (motive:=fun _=>N8 α→(α→Option R)→Option R)
   (fun c k=>N8.rec (motive:=fun _=>Option R) (fun a0 _ _ _ _ _ _ _=>k a0) c) (fun c k=>N8.rec (motive:=fun _=>Option R) (fun _ a1 _ _ _ _ _ _=>k a1) c)
   (fun c k=>N8.rec (motive:=fun _=>Option R) (fun _ _ a2 _ _ _ _ _=>k a2) c) (fun c k=>N8.rec (motive:=fun _=>Option R) (fun _ _ _ a3 _ _ _ _=>k a3) c)
   (fun c k=>N8.rec (motive:=fun _=>Option R) (fun _ _ _ _ a4 _ _ _=>k a4) c) (fun c k=>N8.rec (motive:=fun _=>Option R) (fun _ _ _ _ _ a5 _ _=>k a5) c)
   (fun c k=>N8.rec (motive:=fun _=>Option R) (fun _ _ _ _ _ _ a6 _=>k a6) c) (fun c k=>N8.rec (motive:=fun _=>Option R) (fun _ _ _ _ _ _ _ a7=>k a7) c) d
theorem zH (d:D8) (c:N8 α) (k:α→Option R):pick d c k=k (c.get d):=by cases c;cases d <;> rfl
def vbZ (d:D8) (c:N8 α) (x:α) (k:N8 α→Option R):Option R:=k (c.upd d x)
noncomputable def lay (d:D8):N8 α→α→(N8 α→Option R)→Option R :=
  D8.rec (motive:=fun _=>N8 α→α→(N8 α→Option R)→Option R)
   (fun c x k=>N8.rec (motive:=fun _=>Option R) (fun _ a1 a2 a3 a4 a5 a6 a7=>k (.mk x a1 a2 a3 a4 a5 a6 a7)) c)
   (fun c x k=>N8.rec (motive:=fun _=>Option R) (fun a0 _ a2 a3 a4 a5 a6 a7=>k (.mk a0 x a2 a3 a4 a5 a6 a7)) c)
   (fun c x k=>N8.rec (motive:=fun _=>Option R) (fun a0 a1 _ a3 a4 a5 a6 a7=>k (.mk a0 a1 x a3 a4 a5 a6 a7)) c)
   (fun c x k=>N8.rec (motive:=fun _=>Option R) (fun a0 a1 a2 _ a4 a5 a6 a7=>k (.mk a0 a1 a2 x a4 a5 a6 a7)) c)
   (fun c x k=>N8.rec (motive:=fun _=>Option R) (fun a0 a1 a2 a3 _ a5 a6 a7=>k (.mk a0 a1 a2 a3 x a5 a6 a7)) c)
   (fun c x k=>N8.rec (motive:=fun _=>Option R) (fun a0 a1 a2 a3 a4 _ a6 a7=>k (.mk a0 a1 a2 a3 a4 x a6 a7)) c)
   (fun c x k=>N8.rec (motive:=fun _=>Option R) (fun a0 a1 a2 a3 a4 a5 _ a7=>k (.mk a0 a1 a2 a3 a4 a5 x a7)) c)
   (fun c x k=>N8.rec (motive:=fun _=>Option R) (fun a0 a1 a2 a3 a4 a5 a6 _=>k (.mk a0 a1 a2 a3 a4 a5 a6 x)) c) d
theorem vY (d:D8) (c:N8 α) (x:α) (k:N8 α→Option R):lay d c x k=k (c.upd d x):=by cases c;cases d <;> rfl
def N8.flat {β:Type} (flat:α→List β) (c:N8 α):List β:=c.list.flatMap flat
theorem wbo {β:Type} {flat:α→List β} {w:Nat} (hw:∀ a,(flat a).length=w):∀ l:List α,(l.flatMap flat).length=l.length * w
 | []=>by simp
 | a :: l=>by rw [List.flatMap_cons,List.length_append,wbo hw l,hw,List.length_cons,Nat.add_mul];omega
theorem wat {β:Type} {flat:α→List β} {w:Nat} (hw:∀ a,(flat a).length=w) (h0:0 < w):∀ (l:List α) (n:Nat),(l.flatMap flat)[n]? = (l[n / w]?).bind fun a=>(flat a)[n % w]?
 | [],n=>by simp
 | a :: l,n=>by
  rw [List.flatMap_cons]
  rcases Nat.lt_or_ge n w with h | h
  ·rw [List.getElem?_append_left (by rw [hw];exact h),Nat.div_eq_of_lt h,Nat.mod_eq_of_lt h]
   rfl
  ·rw [List.getElem?_append_right (by rw [hw];exact h),hw,wat hw h0 l]
   have e1:n / w=(n - w) / w + 1:=by rw [Nat.div_eq n w,if_pos ⟨h0,h⟩]
   have e2:n % w=(n - w) % w:=Nat.mod_eq_sub_mod h
   rw [e1,e2,List.getElem?_cons_succ]
theorem N8.flat_len {β:Type} {flat:α→List β} {w:Nat} (hw:∀ a,(flat a).length=w) (c:N8 α):(c.flat flat).length=8 * w:=by
 rw [N8.flat,wbo hw,N8.len]
theorem N8.flat_get {β:Type} {flat:α→List β} {w:Nat} (hw:∀ a,(flat a).length=w) (h0:0 < w) (c:N8 α) {n:Nat} (hn:n < 8 * w):(c.flat flat)[n]? = (flat (c.get (toD (n / w))))[n % w]? := by
 have hd:n / w < 8:=Nat.div_lt_of_lt_mul (by rwa [Nat.mul_comm])
 rw [N8.flat,wat hw h0]
 have:=N8.get_list c (toD (n / w))
 rw [za1 hd] at this
 rw [this];rfl
theorem N8.flat_upd {β:Type} {flat:α→List β} {w:Nat} (hw:∀ a,(flat a).length=w) (h0:0 < w) (c:N8 α) {n:Nat} (hn:n < 8 * w) {a:α} {x:β} (ha:flat a=(flat (c.get (toD (n / w)))).set (n % w) x) :
  (c.upd (toD (n / w)) a).flat flat=(c.flat flat).set n x:=by
 have hd:n / w < 8:=Nat.div_lt_of_lt_mul (by rwa [Nat.mul_comm])
 apply List.ext_getElem?
 intro i
 have hl:(c.flat flat).length=8 * w:=N8.flat_len hw c
 rcases Nat.lt_or_ge i (8 * w) with hi | hi
 ·rw [List.getElem?_set,hl,N8.flat,wat hw h0,N8.upd_list,List.getElem?_set,N8.len,za1 hd]
  have hi8:i / w < 8:=Nat.div_lt_of_lt_mul (by rwa [Nat.mul_comm])
  by_cases hq:n / w=i / w
  ·rw [if_pos hq,if_pos (hq ▸ hi8),Option.bind_some,ha,List.getElem?_set,hw]
   have hm:n % w < w:=Nat.mod_lt _ h0
   by_cases hr:n % w=i % w
   ·have:n=i:=by rw [← Nat.div_add_mod n w,← Nat.div_add_mod i w,hq,hr]
    rw [if_pos hr,if_pos hm,if_pos this,if_pos hn]
   ·have:n≠i:=fun e=>hr (by rw [e])
    rw [if_neg hr,if_neg this,N8.flat_get hw h0 c hi,hq]
  ·have:n≠i:=fun e=>hq (by rw [e])
   rw [if_neg hq,if_neg this,N8.flat,wat hw h0]
 ·rw [List.getElem?_eq_none (by rw [N8.flat_len hw];exact hi),List.getElem?_eq_none (by rw [List.length_set,hl];exact hi)]
def vS (pop:List AV→(α→List AV→Option R)→Option R) (l:List AV) (k:N8 α→List AV→Option R):Option R :=
 pop l fun a0 l=>pop l fun a1 l=>pop l fun a2 l=>pop l fun a3 l=>pop l fun a4 l=>pop l fun a5 l=>pop l fun a6 l=>pop l fun a7 l=>k (.mk a0 a1 a2 a3 a4 a5 a6 a7) l
structure Pops (pop:List AV→(α→List AV→Option R)→Option R) (flat:α→List AV) (w:Nat):Prop where
 ok:∀ l,∃ a,(∀ k,pop l k=k a (l.drop w))∧flat a=(List.range w).map fun i=>l.getD i .junk
theorem gbN (l:List AV) (w m:Nat):((List.range (w + m)).map fun i=>l.getD i .junk)=((List.range w).map fun i=>l.getD i .junk) ++ (List.range m).map fun i=>(l.drop w).getD i .junk:=by
 rw [List.range_add,List.map_append,List.map_map]
 congr 1
 apply List.map_congr_left
 intro i _
 simp [List.getD_eq_getElem?_getD]
theorem Pops.fill {pop:List AV→(α→List AV→Option R)→Option R} {flat:α→List AV} {w:Nat} (h:Pops pop flat w):Pops (vS pop) (N8.flat flat) (8 * w):=⟨fun l=>by
 obtain ⟨a0,p0,f0⟩:=h.ok l
 obtain ⟨a1,p1,f1⟩:=h.ok (l.drop w)
 obtain ⟨a2,p2,f2⟩:=h.ok ((l.drop w).drop w)
 obtain ⟨a3,p3,f3⟩:=h.ok (((l.drop w).drop w).drop w)
 obtain ⟨a4,p4,f4⟩:=h.ok ((((l.drop w).drop w).drop w).drop w)
 obtain ⟨a5,p5,f5⟩:=h.ok (((((l.drop w).drop w).drop w).drop w).drop w)
 obtain ⟨a6,p6,f6⟩:=h.ok ((((((l.drop w).drop w).drop w).drop w).drop w).drop w)
 obtain ⟨a7,p7,f7⟩:=h.ok (((((((l.drop w).drop w).drop w).drop w).drop w).drop w).drop w)
 refine ⟨.mk a0 a1 a2 a3 a4 a5 a6 a7,fun k => ?_,?_⟩
 ·unfold vS
  rw [p0,p1,p2,p3,p4,p5,p6,p7]
  simp only [List.drop_drop]
  congr 2;omega
 ·rw [show 8 * w=w + (w + (w + (w + (w + (w + (w + (w + 0))))))) from by omega]
  simp only [gbN,← f0,← f1,← f2,← f3,← f4,← f5,← f6,← f7]
  simp [N8.flat,N8.list]⟩
def zaG (l:List AV) (k:AV→List AV→Option R):Option R:=match l with
 | []=>k .junk []
 | a :: r=>k a r
theorem ua9:Pops (R:=R) zaG (fun a=>[a]) 1:=⟨fun l=>by
 cases l with
 | nil=>exact ⟨.junk,fun k=>rfl,rfl⟩
 | cons a r=>exact ⟨a,fun k=>rfl,rfl⟩⟩
end
inductive TS where
 | s (n:Nat) (c:N8 AV)
 | m (n:Nat) (c:N8 (N8 AV))
 | l (n:Nat) (c:N8 (N8 (N8 AV)))
instance:Inhabited TS:=⟨.s 0 (.mk .junk .junk .junk .junk .junk .junk .junk .junk)⟩
abbrev fl1:N8 AV→List AV:=N8.flat fun a=>[a]
abbrev fl2:N8 (N8 AV)→List AV:=N8.flat fl1
abbrev fl3:N8 (N8 (N8 AV))→List AV:=N8.flat fl2
theorem vaP (c:N8 AV):(fl1 c).length=8:=N8.flat_len (w:=1) (fun _=>rfl) c
theorem ubo (c:N8 (N8 AV)):(fl2 c).length=64:=N8.flat_len (w:=8) vaP c
def TS.flatten:TS→List AV
 | .s n c=>(fl1 c).take n
 | .m n c=>(fl2 c).take n
 | .l n c=>(fl3 c).take n
def okT:TS→Prop
 | .s n _=>n≤8
 | .m n _=>n≤64
 | .l n _=>n≤512
section
variable {R:Type}
def wbC (ts:TS) (i:Nat) (k:AV→Option R):Option R:=k (ts.flatten.getD i .junk)
noncomputable def q9 (ts:TS):Nat→(AV→Option R)→Option R :=
  TS.rec (motive:=fun _=>Nat→(AV→Option R)→Option R)
   (fun n c i k=>Bool.rec (motive:=fun _=>Option R) (k .junk) (pick (qg i) c k) (Nat.blt i n))
   (fun n c i k=>Bool.rec (motive:=fun _=>Option R) (k .junk) (pick (qg (Nat.div i (nat_lit 8))) c fun c=>pick (qg (Nat.mod i (nat_lit 8))) c k) (Nat.blt i n))
   (fun n c i k=>Bool.rec (motive:=fun _=>Option R) (k .junk) (pick (qg (Nat.div i (nat_lit 64))) c fun c=>pick (qg (Nat.div (Nat.mod i (nat_lit 64)) (nat_lit 8))) c fun c=>pick (qg (Nat.mod i (nat_lit 8))) c k) (Nat.blt i n)) ts
theorem xaA {l:List AV} {n i:Nat} {x:AV} (hi:i < n) (h:l[i]? = some x):(l.take n).getD i .junk=x:=by
 rw [List.getD_eq_getElem?_getD,List.getElem?_take_of_lt hi,h];rfl
theorem yaA {l:List AV} {n i:Nat} (hi:¬ i < n):(l.take n).getD i .junk=.junk:=by
 rw [List.getD_eq_getElem?_getD,List.getElem?_eq_none (by rw [List.length_take];omega)];rfl
theorem gbo (c:N8 AV) {i:Nat} (hi:i < 8):(fl1 c)[i]? = some (c.get (toD (i / 1))):=by
 rw [N8.flat_get (w:=1) (fun _=>rfl) (by omega) c (by omega),Nat.mod_one];rfl
theorem jbo (c:N8 (N8 AV)) {i:Nat} (hi:i < 64):(fl2 c)[i]? = some ((c.get (toD (i / 8))).get (toD (i % 8 / 1))):=by
 rw [N8.flat_get (w:=8) vaP (by omega) c (by omega),gbo _ (Nat.mod_lt _ (by omega))]
theorem ub7 (c:N8 (N8 (N8 AV))) {i:Nat} (hi:i < 512):(fl3 c)[i]? = some (((c.get (toD (i / 64))).get (toD (i % 64 / 8))).get (toD (i % 64 % 8 / 1))):=by
 rw [N8.flat_get (w:=64) ubo (by omega) c (by omega),jbo _ (Nat.mod_lt _ (by omega))]
theorem qaj (ts:TS) (i:Nat) (k:AV→Option R) (h:okT ts):q9 ts i k=k (ts.flatten.getD i .junk):=by
 have nb:∀ n,Nat.blt i n=false→¬ i < n:=fun n h=>by rw [← Nat.blt_eq,h];exact Bool.false_ne_true
 cases ts with
 | s n c =>
  have h:n≤8:=h
  show (Bool.rec (motive:=fun _=>Option R) (k .junk) (pick (qg i) c k) (Nat.blt i n):Option R)=k (((fl1 c).take n).getD i .junk)
  rw [d_s i,qF]
  split
  ·rename_i hb
   rw [Nat.blt_eq] at hb
   rw [zH,xaA hb (gbo c (by omega))]
  ·rename_i hb;rw [yaA (nb n hb)]
 | m n c =>
  have h:n≤64:=h
  show (Bool.rec (motive:=fun _=>Option R) (k .junk) (pick (qg (Nat.div i (nat_lit 8))) c fun c=>pick (qg (Nat.mod i (nat_lit 8))) c k) (Nat.blt i n):Option R)=k (((fl2 c).take n).getD i .junk)
  rw [d_a i,d_b i,qF]
  split
  ·rename_i hb
   rw [Nat.blt_eq] at hb
   rw [zH,zH,xaA hb (jbo c (by omega))]
  ·rename_i hb;rw [yaA (nb n hb)]
 | l n c =>
  have h:n≤512:=h
  show (Bool.rec (motive:=fun _=>Option R) (k .junk) (pick (qg (Nat.div i (nat_lit 64))) c fun c=>pick (qg (Nat.div (Nat.mod i (nat_lit 64)) (nat_lit 8))) c fun c=>pick (qg (Nat.mod i (nat_lit 8))) c k) (Nat.blt i n):Option R)=k (((fl3 c).take n).getD i .junk)
  rw [d_x i,d_y i,d_z i,qF]
  split
  ·rename_i hb
   rw [Nat.blt_eq] at hb
   rw [zH,zH,zH,xaA hb (ub7 c (by omega))]
  ·rename_i hb;rw [yaA (nb n hb)]
def TS.upd:TS→Nat→AV→TS
 | .s n c,i,x=>if i < n then .s n (c.upd (toD (i / 1)) x) else .s n c
 | .m n c,i,x=>if i < n then .m n (c.upd (toD (i / 8)) ((c.get (toD (i / 8))).upd (toD (i % 8 / 1)) x)) else .m n c
 | .l n c,i,x=>if i < n then .l n (c.upd (toD (i / 64)) ((c.get (toD (i / 64))).upd (toD (i % 64 / 8)) (((c.get (toD (i / 64))).get (toD (i % 64 / 8))).upd (toD (i % 64 % 8 / 1)) x))) else .l n c
def xbC (ts:TS) (i:Nat) (x:AV) (k:TS→Option R):Option R:=k (ts.upd i x)
noncomputable def jaj (ts:TS):Nat→AV→(TS→Option R)→Option R :=
  TS.rec (motive:=fun _=>Nat→AV→(TS→Option R)→Option R)
   (fun n c i x k=>Bool.rec (motive:=fun _=>Option R) (k (.s n c)) (lay (qg i) c x fun c=>k (.s n c)) (Nat.blt i n))
   (fun n c i x k=>Bool.rec (motive:=fun _=>Option R) (k (.m n c)) (pick (qg (Nat.div i (nat_lit 8))) c fun c1=>lay (qg (Nat.mod i (nat_lit 8))) c1 x fun c1=>lay (qg (Nat.div i (nat_lit 8))) c c1 fun c=>k (.m n c)) (Nat.blt i n))
   (fun n c i x k=>Bool.rec (motive:=fun _=>Option R) (k (.l n c)) (pick (qg (Nat.div i (nat_lit 64))) c fun c1=>pick (qg (Nat.div (Nat.mod i (nat_lit 64)) (nat_lit 8))) c1 fun c2=>lay (qg (Nat.mod i (nat_lit 8))) c2 x fun c2=>lay (qg (Nat.div (Nat.mod i (nat_lit 64)) (nat_lit 8))) c1 c2 fun c1=>lay (qg (Nat.div i (nat_lit 64))) c c1 fun c=>k (.l n c)) (Nat.blt i n)) ts
theorem ybC (ts:TS) (i:Nat) (x:AV) (k:TS→Option R):jaj ts i x k=k (ts.upd i x):=by
 have nb:∀ n,Nat.blt i n=false→¬ i < n:=fun n h=>by rw [← Nat.blt_eq,h];exact Bool.false_ne_true
 cases ts with
 | s n c =>
  show (Bool.rec (motive:=fun _=>Option R) (k (.s n c)) (lay (qg i) c x fun c=>k (.s n c)) (Nat.blt i n):Option R)=k (if i < n then .s n (c.upd (toD (i / 1)) x) else .s n c)
  rw [d_s i,qF]
  split
  ·rename_i hb;rw [Nat.blt_eq] at hb;rw [if_pos hb,vY]
  ·rename_i hb;rw [if_neg (nb n hb)]
 | m n c =>
  show (Bool.rec (motive:=fun _=>Option R) (k (.m n c)) (pick (qg (Nat.div i (nat_lit 8))) c fun c1=>lay (qg (Nat.mod i (nat_lit 8))) c1 x fun c1=>lay (qg (Nat.div i (nat_lit 8))) c c1 fun c=>k (.m n c)) (Nat.blt i n):Option R) =
   k (if i < n then .m n (c.upd (toD (i / 8)) ((c.get (toD (i / 8))).upd (toD (i % 8 / 1)) x)) else .m n c)
  rw [d_a i,d_b i,qF]
  split
  ·rename_i hb;rw [Nat.blt_eq] at hb;rw [if_pos hb,zH,vY,vY]
  ·rename_i hb;rw [if_neg (nb n hb)]
 | l n c =>
  show (Bool.rec (motive:=fun _=>Option R) (k (.l n c)) (pick (qg (Nat.div i (nat_lit 64))) c fun c1=>pick (qg (Nat.div (Nat.mod i (nat_lit 64)) (nat_lit 8))) c1 fun c2=>lay (qg (Nat.mod i (nat_lit 8))) c2 x fun c2=>lay (qg (Nat.div (Nat.mod i (nat_lit 64)) (nat_lit 8))) c1 c2 fun c1=>lay (qg (Nat.div i (nat_lit 64))) c c1 fun c=>k (.l n c)) (Nat.blt i n):Option R) =
   k (if i < n then .l n (c.upd (toD (i / 64)) ((c.get (toD (i / 64))).upd (toD (i % 64 / 8)) (((c.get (toD (i / 64))).get (toD (i % 64 / 8))).upd (toD (i % 64 % 8 / 1)) x))) else .l n c)
  rw [d_x i,d_y i,d_z i,qF]
  split
  ·rename_i hb;rw [Nat.blt_eq] at hb;rw [if_pos hb,zH,zH,vY,vY,vY]
  ·rename_i hb;rw [if_neg (nb n hb)]
theorem qbo (c:N8 AV) {i:Nat} (hi:i < 8) (x:AV):fl1 (c.upd (toD (i / 1)) x)=(fl1 c).set i x :=
 N8.flat_upd (w:=1) (fun _=>rfl) (by omega) c (by omega) (by rw [Nat.mod_one];rfl)
theorem vbo (c:N8 (N8 AV)) {i:Nat} (hi:i < 64) (x:AV):fl2 (c.upd (toD (i / 8)) ((c.get (toD (i / 8))).upd (toD (i % 8 / 1)) x))=(fl2 c).set i x :=
 N8.flat_upd (w:=8) vaP (by omega) c (by omega) (qbo _ (Nat.mod_lt _ (by omega)) x)
theorem vb7 (c:N8 (N8 (N8 AV))) {i:Nat} (hi:i < 512) (x:AV) :
  fl3 (c.upd (toD (i / 64)) ((c.get (toD (i / 64))).upd (toD (i % 64 / 8)) (((c.get (toD (i / 64))).get (toD (i % 64 / 8))).upd (toD (i % 64 % 8 / 1)) x)))=(fl3 c).set i x :=
 N8.flat_upd (w:=64) ubo (by omega) c (by omega) (vbo _ (Nat.mod_lt _ (by omega)) x)
theorem zaC {l:List AV} {n i:Nat} (x:AV) (hi:¬ i < n):(l.take n).set i x=l.take n:=by
 rw [List.set_eq_of_length_le (by rw [List.length_take];omega)]
theorem ubB {ts:TS} (h:okT ts) (i:Nat) (x:AV):okT (ts.upd i x)∧(ts.upd i x).flatten=ts.flatten.set i x:=by
 cases ts with
 | s n c =>
  have h:n≤8:=h
  show okT (if i < n then .s n (c.upd (toD (i / 1)) x) else .s n c)∧(if i < n then TS.s n (c.upd (toD (i / 1)) x) else .s n c).flatten=((fl1 c).take n).set i x
  by_cases hi:i < n
  ·rw [if_pos hi]
   refine ⟨h,?_⟩
   show (fl1 (c.upd (toD (i / 1)) x)).take n=_
   rw [qbo c (by omega),List.take_set]
  ·rw [if_neg hi];exact ⟨h,(zaC x hi).symm⟩
 | m n c =>
  have h:n≤64:=h
  show okT (if i < n then .m n (c.upd (toD (i / 8)) ((c.get (toD (i / 8))).upd (toD (i % 8 / 1)) x)) else .m n c)∧(if i < n then TS.m n (c.upd (toD (i / 8)) ((c.get (toD (i / 8))).upd (toD (i % 8 / 1)) x)) else .m n c).flatten=((fl2 c).take n).set i x
  by_cases hi:i < n
  ·rw [if_pos hi]
   refine ⟨h,?_⟩
   show (fl2 _).take n=_
   rw [vbo c (by omega),List.take_set]
  ·rw [if_neg hi];exact ⟨h,(zaC x hi).symm⟩
 | l n c =>
  have h:n≤512:=h
  show okT (if i < n then .l n (c.upd (toD (i / 64)) ((c.get (toD (i / 64))).upd (toD (i % 64 / 8)) (((c.get (toD (i / 64))).get (toD (i % 64 / 8))).upd (toD (i % 64 % 8 / 1)) x))) else .l n c) ∧
   (if i < n then TS.l n (c.upd (toD (i / 64)) ((c.get (toD (i / 64))).upd (toD (i % 64 / 8)) (((c.get (toD (i / 64))).get (toD (i % 64 / 8))).upd (toD (i % 64 % 8 / 1)) x))) else .l n c).flatten=((fl3 c).take n).set i x
  by_cases hi:i < n
  ·rw [if_pos hi]
   refine ⟨h,?_⟩
   show (fl3 _).take n=_
   rw [vb7 c (by omega),List.take_set]
  ·rw [if_neg hi];exact ⟨h,(zaC x hi).symm⟩
def wF:N8 AV:=.mk .junk .junk .junk .junk .junk .junk .junk .junk
def ubj:N8 (N8 AV):=.mk wF wF wF wF wF wF wF wF
def yaG (l:List AV) (k:N8 AV→List AV→Option R):Option R:=match l with
 | []=>k wF []
 | a :: r=>vS zaG (a :: r) k
def qa9 (l:List AV) (k:N8 (N8 AV)→List AV→Option R):Option R:=match l with
 | []=>k ubj []
 | a :: r=>vS yaG (a :: r) k
theorem ja9:Pops (R:=R) yaG fl1 8:=⟨fun l=>by
 cases l with
 | nil=>exact ⟨wF,fun k=>rfl,rfl⟩
 | cons a r=>exact (ua9 (R:=R)).fill.ok (a :: r)⟩
theorem vbP:Pops (R:=R) qa9 fl2 64:=⟨fun l=>by
 cases l with
 | nil=>exact ⟨ubj,fun k=>rfl,rfl⟩
 | cons a r=>exact (ja9 (R:=R)).fill.ok (a :: r)⟩
def xav (n:Nat) (l:List AV) (k:TS→Option R):Option R:=match Nat.ble l.length n with
 | false=>none
 | true=>match Nat.ble n 8 with
  | true=>vS zaG l fun c _=>k (.s n c)
  | false=>match Nat.ble n 64 with
   | true=>vS yaG l fun c _=>k (.m n c)
   | false=>match Nat.ble n 512 with
    | true=>vS qa9 l fun c _=>k (.l n c)
    | false=>none
theorem qaE (l:List AV) {n w:Nat} (h:l.length≤n) (hn:n≤w):((List.range w).map fun i=>l.getD i .junk).take n=l ++ List.replicate (n - l.length) .junk:=by
 apply List.ext_getElem
 ·simp;omega
 ·intro i h1 h2
  simp only [List.length_take,List.length_map,List.length_range] at h1
  simp only [List.getElem_take,List.getElem_map,List.getElem_range,List.getD_eq_getElem?_getD]
  rcases Nat.lt_or_ge i l.length with hi | hi
  ·rw [List.getElem_append_left hi,List.getElem?_eq_getElem hi];rfl
  ·rw [List.getElem_append_right hi,List.getElem?_eq_none hi,List.getElem_replicate];rfl
theorem jbt {n:Nat} {l:List AV} {k:TS→Option R} {y:R} (h:xav n l k=some y):∃ ts,okT ts∧ts.flatten=l ++ List.replicate (n - l.length) .junk∧k ts=some y:=by
 unfold xav at h
 split at h
 ·cases h
 ·rename_i hl
  have hl:=Nat.le_of_ble_eq_true hl
  split at h
  ·rename_i hb
   have hb:=Nat.le_of_ble_eq_true hb
   obtain ⟨c,h1,h2⟩:=(ua9 (R:=R)).fill.ok l
   rw [h1] at h
   exact ⟨.s n c,hb,by show (fl1 c).take _=_;rw [show fl1 c=_ from h2];exact qaE l hl (by omega),h⟩
  ·split at h
   ·rename_i hb
    have hb:=Nat.le_of_ble_eq_true hb
    obtain ⟨c,h1,h2⟩:=(ja9 (R:=R)).fill.ok l
    rw [h1] at h
    exact ⟨.m n c,hb,by show (fl2 c).take _=_;rw [show fl2 c=_ from h2];exact qaE l hl (by omega),h⟩
   ·split at h
    ·rename_i hb
     have hb:=Nat.le_of_ble_eq_true hb
     obtain ⟨c,h1,h2⟩:=(vbP (R:=R)).fill.ok l
     rw [h1] at h
     exact ⟨.l n c,hb,by show (fl3 c).take _=_;rw [show fl3 c=_ from h2];exact qaE l hl (by omega),h⟩
    ·cases h
def waT (l:List AV) (k:TS→Option R):Option R:=gc l.length fun n=>xav n l k
theorem xcc {l:List AV} {k:TS→Option R} {y:R} (h:waT l k=some y):∃ ts,okT ts∧ts.flatten=l∧k ts=some y:=by
 unfold waT at h
 rw [qd] at h
 obtain ⟨ts,h1,h2,h3⟩:=jbt h
 refine ⟨ts,h1,?_,h3⟩
 rw [h2,Nat.sub_self];simp
def yas (ops:Array Oper) (ts:TS) (o:Oper):Option Bool :=
 match o.guard with
 | none=>some true
 | some (j,want) =>
  match (zw ops.toList j).bind (·.dst) with
  | none=>none
  | some d=>q9 ts d fun x=>match x with
   | .bool b=>some (b == want)
   | .tup []=>some false
   | _=>none
end
end
end Go.Abs

namespace Go.Abs
noncomputable section
variable [Gl]
section ops
variable {R:Type} (T:Tab)
def ubq (t:Tmp) (ts:TS) (k:AV→Option R):Option R:=q9 ts t k
def gbq (v:Value) (_:TS) (k:AV→Option R):Option R:=fAV (ofV v) k
def jbq (g:Nat) (_:TS) (k:AV→Option R):Option R:=k (.gp g 0)
def qbq (f:FuncId) (_:TS) (k:AV→Option R):Option R:=k (.fn (.func f) [] [])
def qb8 (o:Operand):TS→(AV→Option R)→Option R :=
 match o with
 | .tmp t=>ubq t
 | .const v=>gbq v
 | .global g=>jbq g
 | .func f=>qbq f
noncomputable def gb8 (o:Operand):TS→(AV→Option R)→Option R :=
  Operand.rec (motive:=fun _=>TS→(AV→Option R)→Option R) ubq gbq jbq qbq o
def evK (ts:TS) (o:Operand) (k:AV→Option R):Option R:=gb8 o ts k
theorem xc {ts:TS} (ht:okT ts) (h:Heap) (o:Operand) (k:AV→Option R):evK ts o k=k (St.ev ⟨ts.flatten,h⟩ o):=by
 cases o with
 | tmp t=>exact qaj ts t k ht
 | const v=>exact xj (ofV v) k
 | global g=>rfl
 | func f=>rfl
def gS (ts:TS):List Operand→(List AV→Option R)→Option R
 | [],k=>k []
 | o :: l,k=>evK ts o fun x=>gS ts l fun xs=>k (x :: xs)
theorem qS {ts:TS} (ht:okT ts) (h:Heap):∀ (l:List Operand) (k:List AV→Option R),gS ts l k=k (l.map (St.ev ⟨ts.flatten,h⟩))
 | [],_=>rfl
 | o :: l,k=>by rw [gS,xc ht h,qS ht h l];rfl
def zag (ts:TS) (o:Option Operand) (k:Option AV→Option R):Option R :=
 match o with
 | none=>k none
 | some o=>evK ts o fun x=>k (some x)
theorem y5 {ts:TS} (ht:okT ts) (h:Heap) (o:Option Operand) (k:Option AV→Option R):zag ts o k=k (o.map (St.ev ⟨ts.flatten,h⟩)):=by
 cases o with
 | none=>rfl
 | some o=>rw [zag,xc ht h];rfl
def y4 (ts:TS):List (Nat × Operand)→(List (Nat × AV)→Option R)→Option R
 | [],k=>k []
 | (i,o) :: l,k=>evK ts o fun x=>y4 ts l fun xs=>k ((i,x) :: xs)
theorem gaf {ts:TS} (ht:okT ts) (h:Heap):∀ (l:List (Nat × Operand)) (k:List (Nat × AV)→Option R),y4 ts l k=k (l.map fun p=>(p.1,St.ev ⟨ts.flatten,h⟩ p.2))
 | [],_=>rfl
 | (i,o) :: l,k=>by rw [y4,xc ht h,gaf ht h l];rfl
def jbO (ts:TS) (d:Option Tmp) (x:AV) (k:TS→Option R):Option R :=
 match d with
 | none=>k ts
 | some d=>jaj ts d x k
noncomputable def zC (ts:TS) (d:Option Tmp) (x:AV) (k:TS→Option R):Option R :=
  Option.rec (motive:=fun _=>Option R) (k ts) (fun d=>jaj ts d x k) d
theorem jab {ts:TS} (ht:okT ts) {d:Option Tmp} {x:AV} {k:TS→Option R} {y:R} (h:zC ts d x k=some y):∃ ts',okT ts'∧ts'.flatten=yi ts.flatten d x∧k ts'=some y:=by
 cases d with
 | none=>exact ⟨ts,ht,rfl,h⟩
 | some d =>
  replace h:jaj ts d x k=some y:=h
  rw [ybC] at h
  obtain ⟨h1,h2⟩:=ubB ht d x
  exact ⟨_,h1,h2,h⟩
def vj {α:Type} (p:α→Bool):List α→Bool
 | []=>true
 | a :: l=>match p a with | true=>vj p l | false=>false
omit [Gl] in
theorem xG {α:Type} {p:α→Bool}:∀ {l:List α},vj p l=true→∀ x∈l,p x=true
 | [],_,x,hx=>by cases hx
 | a :: l,h,x,hx=>by
  unfold vj at h
  split at h
  ·rename_i ha
   rcases List.mem_cons.1 hx with rfl | hx
   ·exact ha
   ·exact xG h x hx
  ·cases h
def ju:Nat→AV→Bool
 | 0,_=>false
 | n + 1,x=>match x with
  | .junk | .bool _ | .int _ _ | .str _ | .nilp | .nils | .nilf | .nili | .nilm | .gp _ _=>true
  | .agg cs=>vj (ju n) cs
  | .tup cs=>vj (ju n) cs
  | .vs es _=>vj (vj (ju n)) es
  | .vp row _=>vj (ju n) row
  | .fn _ a c=>vj (ju n) a && vj (ju n) c
  | .ifc _ x=>ju n x
  | _=>false
theorem wan:∀ (n:Nat) (x:AV),ju n x=true→Pure x
 | 0,_,h=>by cases h
 | n + 1,x,h=>by
  have ih:=wan n
  have all:∀ {l:List AV},vj (ju n) l=true→∀ (i:Nat) (hi:i < l.length),Pure l[i]:=fun h i hi=>ih _ (xG h _ (List.getElem_mem hi))
  unfold ju at h
  split at h
  ·exact .junk
  ·exact .bool _
  ·exact .int _ _
  ·exact .str _
  ·exact .nilp
  ·exact .nils
  ·exact .nilf
  ·exact .nili
  ·exact .nilm
  ·exact .gp _ _
  ·exact .agg _ (all h)
  ·exact .tup _ (all h)
  ·exact .vs _ _ fun i hi j hj=>all (xG h _ (List.getElem_mem hi)) j hj
  ·exact .vp _ _ (all h)
  ·rw [Bool.and_eq_true] at h
   exact .fn _ _ _ (all h.1) (all h.2)
  ·exact .ifc _ _ (ih _ h)
  ·cases h
def vQ:Nat→AV→Bool
 | 0,_=>false
 | n + 1,x=>match x with
  | .bool _ | .int _ _ | .str _ | .nilp | .nils | .nilf | .nili | .nilm=>true
  | .agg cs=>vj (vQ n) cs
  | .tup cs=>vj (vQ n) cs
  | _=>false
theorem xaG:∀ (n:Nat) (x:AV),vQ n x=true→Plain x
 | 0,_,h=>by cases h
 | n + 1,x,h=>by
  have ih:=xaG n
  have all:∀ {l:List AV},vj (vQ n) l=true→∀ (i:Nat) (hi:i < l.length),Plain l[i]:=fun h i hi=>ih _ (xG h _ (List.getElem_mem hi))
  unfold vQ at h
  split at h
  ·exact .bool _
  ·exact .int _ _
  ·exact .str _
  ·exact .nilp
  ·exact .nils
  ·exact .nilf
  ·exact .nili
  ·exact .nilm
  ·exact .agg _ (all h)
  ·exact .tup _ (all h)
  ·cases h
def ww (f:AV→(AV→Option R)→Option R):List AV→(List AV→Option R)→Option R
 | [],k=>k []
 | a :: l,k=>f a fun a'=>ww f l fun l'=>k (a' :: l')
def uZ (f:AV→(AV→Option R)→Option R):List (List AV)→(List (List AV)→Option R)→Option R
 | [],k=>k []
 | a :: l,k=>ww f a fun a'=>uZ f l fun l'=>k (a' :: l')
def frz:Nat→EH→AV→(AV→Option R)→Option R
 | 0,_,_,_=>none
 | n + 1,e,x,k=>match x with
  | .agg cs=>ww (frz n e) cs fun cs=>k (.agg cs)
  | .tup cs=>ww (frz n e) cs fun cs=>k (.tup cs)
  | .fn f a c=>ww (frz n e) a fun a=>ww (frz n e) c fun c=>k (.fn f a c)
  | .ifc t x=>frz n e x fun x=>k (.ifc t x)
  | .ms b i len capo=>(match e.get b with
   | some (.rows rs _ _)=>(match Nat.ble (i + len) rs.length with
    | true=>uZ (frz n e) ((rs.drop i).take len) fun es=>k (.vs es capo)
    | false=>none)
   | _=>none)
  | .ptr b i j=>(match e.get b with
   | some (.rows rs _ _)=>(match zw rs i with | some row=>ww (frz n e) row fun row=>k (.vp row j) | none=>none)
   | _=>none)
  | .bool b=>k (.bool b)
  | .int q n=>k (.int q n)
  | .str s=>k (.str s)
  | .nilp=>k .nilp
  | .nils=>k .nils
  | .nilf=>k .nilf
  | .nili=>k .nili
  | .nilm=>k .nilm
  | .gp g j=>k (.gp g j)
  | .vs es c=>uZ (frz n e) es fun es=>k (.vs es c)
  | .vp row j=>ww (frz n e) row fun row=>k (.vp row j)
  | _=>none
structure yaY (h:Heap) (xs ys:List AV):Prop where
 len:xs.length=ys.length
 frz:∀ (i:Nat) (hi:i < xs.length) (hj:i < ys.length),Frz h xs[i] ys[i]
 pure:∀ y∈ys,Pure y
omit [Gl] in
theorem uF {h:Heap} {f:AV→(AV→Option R)→Option R} (hf:∀ x k z,f x k=some z→∃ y,Frz h x y∧Pure y∧k y=some z) :
  ∀ (l:List AV) (k:List AV→Option R) (z:R),ww f l k=some z→∃ l',yaY h l l'∧k l'=some z
 | [],k,z,hk=>⟨[],⟨rfl,fun i hi=>by simp at hi,fun y hy=>by cases hy⟩,hk⟩
 | a :: l,k,z,hk=>by
  obtain ⟨y,h1,h2,h3⟩:=hf _ _ _ hk
  obtain ⟨l',h4,h5⟩:=uF hf l _ z h3
  refine ⟨y :: l',⟨by simp [h4.len],fun i hi hj => ?_,fun x hx => ?_⟩,h5⟩
  ·cases i with
   | zero=>exact h1
   | succ i=>exact h4.frz i (by simpa using hi) (by simpa using hj)
  ·rcases List.mem_cons.1 hx with rfl | hx
   ·exact h2
   ·exact h4.pure x hx
theorem jaO {h:Heap} {f:AV→(AV→Option R)→Option R} (hf:∀ x k z,f x k=some z→∃ y,Frz h x y∧Pure y∧k y=some z) :
  ∀ (l:List (List AV)) (k:List (List AV)→Option R) (z:R),uZ f l k=some z →
   ∃ l':List (List AV),l.length=l'.length∧(∀ (i:Nat) (hi:i < l.length) (hj:i < l'.length),yaY h l[i] l'[i])∧k l'=some z
 | [],k,z,hk=>⟨[],rfl,fun i hi=>by simp at hi,hk⟩
 | a :: l,k,z,hk=>by
  obtain ⟨y,h1,h3⟩:=uF hf a _ _ hk
  obtain ⟨l',h4,h5,h6⟩:=jaO hf l _ z h3
  refine ⟨y :: l',by simp [h4],fun i hi hj => ?_,h6⟩
  cases i with
  | zero=>exact h1
  | succ i=>exact h5 i (by simpa using hi) (by simpa using hj)
theorem vas {e:EH} (he:e.ok):∀ (n:Nat) (x:AV) (k:AV→Option R) (z:R),frz n e x k=some z→∃ y,Frz e.abs x y∧Pure y∧k y=some z
 | 0,_,_,_,h=>by cases h
 | n + 1,x,k,z,h=>by
  have ih:=vas he n
  have self:∀ {x:AV},Pure x→k x=some z→∃ y,Frz e.abs x y∧Pure y∧k y=some z:=fun hp hk=>⟨_,.pure _ hp,hp,hk⟩
  have all:∀ {l:List AV},vj (ju n) l=true→∀ (i:Nat) (hi:i < l.length),Pure l[i]:=fun h i hi=>wan _ _ (xG h _ (List.getElem_mem hi))
  unfold frz at h
  split at h
  ·obtain ⟨l,h1,h2⟩:=uF ih _ _ _ h
   exact ⟨_,.agg _ _ h1.len h1.frz,.agg _ fun i hi=>h1.pure _ (List.getElem_mem hi),h2⟩
  ·obtain ⟨l,h1,h2⟩:=uF ih _ _ _ h
   exact ⟨_,.tup _ _ h1.len h1.frz,.tup _ fun i hi=>h1.pure _ (List.getElem_mem hi),h2⟩
  ·obtain ⟨l,h1,h2⟩:=uF ih _ _ _ h
   obtain ⟨l2,h3,h4⟩:=uF ih _ _ _ h2
   exact ⟨_,.fn _ _ _ _ _ h1.len h3.len h1.frz h3.frz,.fn _ _ _ (fun i hi=>h1.pure _ (List.getElem_mem hi)) fun i hi=>h3.pure _ (List.getElem_mem hi),h4⟩
  ·obtain ⟨y,h1,h2,h3⟩:=ih _ _ _ h
   exact ⟨_,.ifc _ _ _ h1,.ifc _ _ h2,h3⟩
  ·rename_i b i len capo
   rw [EH.get_abs he] at h
   split at h
   ·rename_i rs g fz hb
    split at h
    ·rename_i hc
     rw [Nat.ble_eq] at hc
     obtain ⟨es,h1,h2,h3⟩:=jaO ih _ _ _ h
     have hlen:((rs.drop i).take len).length=len:=by rw [List.length_take,List.length_drop];omega
     have hl:es.length=len:=by rw [← h1,hlen]
     have get:∀ (t:Nat) (ht:t < es.length) (hr:i + t < rs.length),yaY e.abs rs[i + t] es[t]:=fun t ht hr=>by
      have:=h2 t (by omega) ht
      simpa using this
     refine ⟨_,.ms b i len capo rs g fz es hb hl hc (fun t ht hr=>(get t ht hr).len.symm) (fun t ht hr j h1 h2=>(get t ht hr).frz j h2 h1),.vs _ _ fun t ht j hj=>(get t ht (by omega)).pure _ (List.getElem_mem hj),h3⟩
    ·cases h
   ·cases h
  ·rename_i b i j
   rw [EH.get_abs he] at h
   split at h
   ·rename_i rs g fz hb
    rw [qu] at h
    split at h
    ·rename_i row hrow
     obtain ⟨hi,rfl⟩:=List.getElem?_eq_some_iff.1 hrow
     obtain ⟨l,h1,h2⟩:=uF ih _ _ _ h
     exact ⟨_,.ptr b i j rs g fz l hb hi h1.len.symm fun t a b=>h1.frz t b a,.vp _ _ fun t ht=>h1.pure _ (List.getElem_mem ht),h2⟩
    ·cases h
   ·cases h
  ·exact self (.bool _) h
  ·exact self (.int _ _) h
  ·exact self (.str _) h
  ·exact self .nilp h
  ·exact self .nils h
  ·exact self .nilf h
  ·exact self .nili h
  ·exact self .nilm h
  ·exact self (.gp _ _) h
  ·obtain ⟨es',h1,h2,h3⟩:=jaO ih _ _ _ h
   exact ⟨_,.vs _ _ _ h1 (fun t a b=>(h2 t a b).len) (fun t a b j c d=>(h2 t a b).frz j c d),.vs _ _ fun t ht j hj=>(h2 t (by omega) ht).pure _ (List.getElem_mem hj),h3⟩
  ·obtain ⟨l,h1,h2⟩:=uF ih _ _ _ h
   exact ⟨_,.vp _ _ _ h1.len h1.frz,.vp _ _ fun t ht=>h1.pure _ (List.getElem_mem ht),h2⟩
  ·cases h
def jw {α:Type} (f:α→α→Bool):List α→List α→Bool
 | [],[]=>true
 | a :: l,b :: r=>match f a b with | true=>jw f l r | false=>false
 | _,_=>false
omit [Gl] in
theorem gA {α:Type} {f:α→α→Bool} (hf:∀ a b,f a b=true→a=b):∀ {l r:List α},jw f l r=true→l=r
 | [],[],_=>rfl
 | a :: l,b :: r,h=>by
  unfold jw at h
  split at h
  ·rename_i hab;rw [hf _ _ hab,gA hf h]
  ·cases h
 | [],_ :: _,h=>by cases h
 | _ :: _,[],h=>by cases h
def qaV (a b:UInt8):Bool:=Nat.beq a.toNat b.toNat
omit [Gl] in
theorem vcf (a b:UInt8) (h:qaV a b=true):a=b:=UInt8.toNat_inj.1 (by simpa [qaV,Nat.beq_eq] using h)
def waw (a b:Option Nat):Bool:=match a with | none=>(match b with | none=>true | _=>false) | some a=>(match b with | some b=>Nat.beq a b | none=>false)
omit [Gl] in
theorem xbx (a b:Option Nat) (h:waw a b=true):a=b:=by
 cases a <;> cases b <;> simp_all [waw,Nat.beq_eq]
def gaV (a b:Int):Bool:=match a with | .ofNat a=>(match b with | .ofNat b=>Nat.beq a b | _=>false) | .negSucc a=>(match b with | .negSucc b=>Nat.beq a b | _=>false)
omit [Gl] in
theorem ucf (a b:Int) (h:gaV a b=true):a=b:=by
 cases a <;> cases b <;> simp_all [gaV,Nat.beq_eq]
def zaW (a b:Fn):Bool:=match a with | .func a=>(match b with | .func b=>Nat.beq a b | _=>false) | _=>false
omit [Gl] in
theorem jcf (a b:Fn) (h:zaW a b=true):a=b:=by
 cases a <;> cases b <;> simp_all [zaW,Nat.beq_eq]
def qq:Nat→AV→AV→Bool
 | 0,_,_=>false
 | n + 1,x,y=>match x with
  | .bool a=>(match y with | .bool b=>(match a with | true=>b | false => !b) | _=>false)
  | .int k a=>(match y with | .int k' b=>jj k k' && gaV a b | _=>false)
  | .str a=>(match y with | .str b=>jw qaV a b | _=>false)
  | .nilp=>(match y with | .nilp=>true | _=>false)
  | .nils=>(match y with | .nils=>true | _=>false)
  | .nilf=>(match y with | .nilf=>true | _=>false)
  | .nili=>(match y with | .nili=>true | _=>false)
  | .nilm=>(match y with | .nilm=>true | _=>false)
  | .agg a=>(match y with | .agg b=>jw (qq n) a b | _=>false)
  | .tup a=>(match y with | .tup b=>jw (qq n) a b | _=>false)
  | .vs a c=>(match y with | .vs b d=>waw c d && jw (jw (qq n)) a b | _=>false)
  | .vp a c=>(match y with | .vp b d=>Nat.beq c d && jw (qq n) a b | _=>false)
  | .fn f a c=>(match y with | .fn g b d=>zaW f g && jw (qq n) a b && jw (qq n) c d | _=>false)
  | .gp g j=>(match y with | .gp g' j'=>Nat.beq g g' && Nat.beq j j' | _=>false)
  | .ifc t a=>(match y with | .ifc u b=>Nat.beq t u && qq n a b | _=>false)
  | .ptr b i j=>(match y with | .ptr b' i' j'=>Nat.beq b b' && Nat.beq i i' && Nat.beq j j' | _=>false)
  | .ms b i l c=>(match y with | .ms b' i' l' c'=>Nat.beq b b' && Nat.beq i i' && Nat.beq l l' && waw c c' | _=>false)
  | .mp b=>(match y with | .mp b'=>Nat.beq b b' | _=>false)
  | .yld b=>(match y with | .yld b'=>Nat.beq b b' | _=>false)
  | .junk=>(match y with | .junk=>true | _=>false)
theorem yG:∀ (n:Nat) (x y:AV),qq n x y=true→x=y
 | 0,_,_,h=>by cases h
 | n + 1,x,y,h=>by
  have ih:=yG n
  unfold qq at h
  split at h <;> (first | (cases h;done) | split at h) <;> first | (cases h;done) | rfl | skip
  ·rename_i a _ b
   cases a <;> cases b <;> simp_all
  ·rw [Bool.and_eq_true] at h
   rename_i k a _ k' b
   have h1:k=k':=by simpa [jj] using h.1
   rw [h1,ucf _ _ h.2]
  ·rw [gA vcf h]
  ·rw [gA ih h]
  ·rw [gA ih h]
  ·rw [Bool.and_eq_true] at h
   rw [xbx _ _ h.1,gA (fun _ _ h=>gA ih h) h.2]
  ·rw [Bool.and_eq_true,Nat.beq_eq] at h
   rw [h.1,gA ih h.2]
  ·rw [Bool.and_eq_true,Bool.and_eq_true] at h
   rw [jcf _ _ h.1.1,gA ih h.1.2,gA ih h.2]
  ·rw [Bool.and_eq_true,Nat.beq_eq,Nat.beq_eq] at h
   rw [h.1,h.2]
  ·rw [Bool.and_eq_true,Nat.beq_eq] at h
   rw [h.1,ih _ _ h.2]
  ·rw [Bool.and_eq_true,Bool.and_eq_true,Nat.beq_eq,Nat.beq_eq,Nat.beq_eq] at h
   rw [h.1.1,h.1.2,h.2]
  ·rw [Bool.and_eq_true,Bool.and_eq_true,Bool.and_eq_true,Nat.beq_eq,Nat.beq_eq,Nat.beq_eq] at h
   rw [h.1.1.1,h.1.1.2,h.1.2,xbx _ _ h.2]
  ·rw [Nat.beq_eq] at h;rw [h]
  ·rw [Nat.beq_eq] at h;rw [h]
def qar:List UInt8→Nat→(Nat→Option R)→Option R
 | [],h,k=>k h
 | c :: l,h,k=>gc ((h * 31 + c.toNat) % 2305843009213693951) fun h=>qar l h k
def qH {α:Type} (g:α→Nat→(Nat→Option R)→Option R):List α→Nat→(Nat→Option R)→Option R
 | [],h,k=>k h
 | a :: l,h,k=>g a h fun h=>qH g l h k
def uN:Nat→AV→Nat→(Nat→Option R)→Option R
 | 0,_,h,k=>k h
 | f + 1,x,h,k=>match x with
  | .bool b=>(match b with | true=>gc (h * 31 + 3) k | false=>gc (h * 31 + 5) k)
  | .int _ n=>(match n with | .ofNat m=>gc ((h * 31 + m) % 2305843009213693951) k | .negSucc m=>gc ((h * 37 + m) % 2305843009213693951) k)
  | .str s=>qar s h k
  | .agg l=>qH (uN f) l h k
  | .tup l=>qH (uN f) l h k
  | .vs es _=>qH (fun r=>qH (uN f) r) es (h * 31 + 11) k
  | .vp r _=>qH (uN f) r (h * 31 + 13) k
  | _=>k h
def xaf (h:Nat) (args:List AV):List (List AV × AV)→Option AV
 | []=>none
 | p :: l=>match (match (qH (uN 30) p.1 7 fun n=>some n:Option Nat) with | some n=>Nat.beq h n | none=>false) with
  | false=>xaf h args l
  | true=>match jw (qq 30) args p.1 with | true=>some p.2 | false=>xaf h args l
def vbp (args:List AV) (l:List (List AV × AV)):Option AV:=qH (uN 30) args 7 fun h=>xaf h args l
theorem yaQ {h:Nat} {args:List AV}:∀ {l:List (List AV × AV)} {r:AV},xaf h args l=some r→(args,r)∈l
 | [],_,hh=>by cases hh
 | (as,r') :: l,r,hh=>by
  unfold xaf at hh
  split at hh
  ·exact List.mem_cons_of_mem _ (yaQ hh)
  ·split at hh
   ·rename_i hb
    injection hh with hh;subst hh
    rw [gA (yG 30) hb]
    exact List.mem_cons_self
   ·exact List.mem_cons_of_mem _ (yaQ hh)
theorem uR {α:Type} {g:α→Nat→(Nat→Option R)→Option R} (hg:∀ a h k y,g a h k=some y→∃ n,k n=some y):∀ (l:List α) (h:Nat) (k:Nat→Option R) (y:R),qH g l h k=some y→∃ n,k n=some y
 | [],h,k,y,hy=>⟨h,hy⟩
 | a :: l,h,k,y,hy=>by
  obtain ⟨n,hn⟩:=hg a h _ y hy
  exact uR hg l n k y hn
theorem qbl:∀ (l:List UInt8) (h:Nat) (k:Nat→Option R) (y:R),qar l h k=some y→∃ n,k n=some y
 | [],h,k,y,hy=>⟨h,hy⟩
 | c :: l,h,k,y,hy=>by
  rw [qar,qd] at hy
  exact qbl l _ k y hy
theorem jae:∀ (f:Nat) (x:AV) (h:Nat) (k:Nat→Option R) (y:R),uN f x h k=some y→∃ n,k n=some y
 | 0,x,h,k,y,hy=>⟨h,hy⟩
 | f + 1,x,h,k,y,hy=>by
  unfold uN at hy
  split at hy
  ·split at hy <;> (rw [qd] at hy;exact ⟨_,hy⟩)
  ·split at hy <;> (rw [qd] at hy;exact ⟨_,hy⟩)
  ·exact qbl _ _ _ _ hy
  ·exact uR (jae f) _ _ _ _ hy
  ·exact uR (jae f) _ _ _ _ hy
  ·exact uR (fun r h k y hy=>uR (jae f) r h k y hy) _ _ _ _ hy
  ·exact uR (jae f) _ _ _ _ hy
  ·exact ⟨_,hy⟩
theorem zb8 {args:List AV} {l:List (List AV × AV)} {r:AV} (h:vbp args l=some r):(args,r)∈l:=by
 obtain ⟨n,hn⟩:=uR (jae 30) args 7 _ _ h
 exact yaQ hn
end ops
end
end Go.Abs
