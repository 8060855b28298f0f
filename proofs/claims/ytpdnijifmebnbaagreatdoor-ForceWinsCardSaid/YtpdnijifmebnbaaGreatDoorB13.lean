/-
  Steps to a law of this program: AbsDraw, AbsDraw2, AbsDraw3.
  Conditions: none.
-/
import Derived.Test.YtpdnijifmebnbaaGreatDoorB8
import Derived.Orders
set_option linter.unusedVariables false
set_option linter.unusedSimpArgs false
set_option linter.unusedSectionVars false
namespace Go.Abs
noncomputable section
variable [Gl]
section draw
variable {P:Program} {T:Tab} {n m:Nat} {rnd:Option Nat} {ops:Array Oper} {Q:gb→St→Prop}
omit [Gl] in
theorem ubr (w:World):Grows w { w with drawn:=w.drawn + 1 }:=⟨Nat.le_refl _,rfl,rfl,rfl,fun _ _=>rfl⟩
theorem qa1 {id:Nat} {st:St} (hm:P.follows .mixedOrders=true) (h:∀ t,TodoSem P n m rnd [.inRegion ops (Region.linearise .any ops t)] st Q):TodoSem P n m rnd [.code (.region id ops true)] st Q :=
 ⟨fun b E w tmps ds base h1 h2 hb h3 h4 h5 k cs=>by
  obtain ⟨x1,x2⟩:=(ubr w).ext h1.heap n m
  obtain ⟨x3,_⟩:=(ubr w).ext h1.heap st.h.blks.length st.h.loops.length
  have hs:StR E { w with drawn:=w.drawn + 1 } st tmps:=⟨x2,h1.tmps.keep x3.keeps h1.lt,h1.lt⟩
  obtain ⟨e,st',E',w',tmps',ds',q,r1,r2,r3,r4,r5,r6⟩:=(h (w.tape w.drawn (.order b.fn id))).run b E _ tmps ds base hs (h2.ext x1) hb (h3.ext x1) h4 h5 k cs
  refine ⟨e,st',E',w',tmps',ds',q,r1,r2,x1.trans (Nat.le_refl _) (Nat.le_refl _) r3,r4,r5,.of_steps (.one ?_) r6⟩
  have:=stepR_region_draw (P:=P) (b:=b) (a:=⟨tmps,ds⟩) (k:=k) (cs:=cs) (w:=w) (ops:=ops) (id:=id)
  rw [hm] at this
  simp only [Region.schedule,Bool.true_or,if_true] at this
  exact this⟩
def left (listed:Array Bool):Nat:=(listed.toList.filter fun b => !b).length
omit [Gl] in
theorem zar {listed:Array Bool} {i:Nat} (hi:i < listed.size) (h:listed[i]=false):left (listed.setIfInBounds i true) + 1=left listed:=by
 unfold left
 rw [Array.toList_setIfInBounds]
 have hl:i < listed.toList.length:=by simpa using hi
 have hv:listed.toList[i]=false:=by simpa using h
 generalize listed.toList=l at hl hv
 clear h hi
 induction l generalizing i with
 | nil=>simp at hl
 | cons a l ih =>
  cases i with
  | zero =>
   simp only [List.getElem_cons_zero] at hv
   subst hv
   simp
  | succ i =>
   simp only [List.getElem_cons_succ] at hv
   have:=ih (i:=i) (by simpa using hl) hv
   simp only [List.set_cons_succ,List.filter_cons]
   split <;> simp_all <;> omega
theorem gcg (hT:wc P T) (Inv:Array Bool→St→Prop)
  (hstep:∀ listed st i,Inv listed st→i∈Region.ready .any ops listed→∃ o,ops[i]? = some o∧i < listed.size∧listed[i]? = some false ∧
   ((yg ops st.tmps o=some false∧Inv (listed.setIfInBounds i true) { tmps:=yi st.tmps o.dst (.tup []),h:=st.h }) ∨
    (yg ops st.tmps o=some true∧opW P T st o fun r h'=>Inv (listed.setIfInBounds i true) { tmps:=yi st.tmps o.dst r,h:=h' })))
  (hend:∀ listed st,Inv listed st→Region.ready .any ops listed=[]→Q .normal st)
  (hzero:∀ listed st,Inv listed st→left listed=0→Region.ready .any ops listed=[]) :
  ∀ (fuel t:Nat) (listed:Array Bool) (st:St),Inv listed st→left listed=fuel→TodoSem P n m rnd [.inRegion ops (Region.linearise.go .any ops fuel t listed [])] st Q:=by
 intro fuel
 induction fuel with
 | zero =>
  intro t listed st hi hl
  simp only [Region.linearise.go,List.reverse_nil]
  exact wU (hend listed st hi (hzero listed st hi hl))
 | succ fuel ih =>
  intro t listed st hi hl
  simp only [Region.linearise.go]
  change TodoSem P n m rnd [.inRegion ops (match (Region.ready .any ops listed)[t % (Region.ready .any ops listed).length]? with
   | some i=>Region.linearise.go .any ops fuel (t / (Region.ready .any ops listed).length) (listed.setIfInBounds i true) [i]
   | none=>[].reverse)] st Q
  cases hr:(Region.ready .any ops listed)[t % (Region.ready .any ops listed).length]? with
  | none =>
   have hnil:Region.ready .any ops listed=[]:=by
    cases hr':Region.ready .any ops listed with
    | nil=>rfl
    | cons x xs =>
     rw [hr'] at hr
     have hlt:t % (x :: xs).length < (x :: xs).length:=Nat.mod_lt _ (by simp)
     rw [List.getElem?_eq_getElem hlt] at hr
     cases hr
   exact wU (hend listed st hi hnil)
  | some i =>
   simp only []
   rw [linearise_go_acc,List.reverse_singleton,List.singleton_append]
   obtain ⟨o,ho,hlt,hf,hcase⟩:=hstep listed st i hi (List.mem_of_getElem? hr)
   have hset:left (listed.setIfInBounds i true)=fuel:=by
    have:=zar hlt (by rw [Array.getElem?_eq_getElem hlt] at hf;injection hf)
    omega
   rcases hcase with ⟨hg,hinv⟩ | ⟨hg,hop⟩
   ·exact xak ho hg (ih _ _ _ hinv hset)
   ·refine wak ho hg (uao hop) fun hh=>(vao hT hop hh).mono fun r h' hinv=>ih _ _ _ hinv hset
end draw
end
end Go.Abs

namespace Go.Abs
noncomputable section
variable [Gl]
inductive Bef (ops:Array Oper):Nat→Nat→Prop where
 | edge (o:Oper) (e:Edge) (i:Nat) (ho:ops[i]? = some o) (he:e∈o.after) (hb:Region.binds .any e=true):Bef ops e.on i
 | trans (j k i:Nat) (a:Bef ops j k) (b:Bef ops k i):Bef ops j i
def jq (ops:Array Oper) (i:Nat):Option Tmp:=(ops[i]?).bind (·.dst)
def tmk (ops:Array Oper) (V:Nat→AV) (A0:List AV) (S:Nat→Bool):Nat→List AV
 | 0=>A0
 | k + 1=>match S k with
  | true=>yi (tmk ops V A0 S k) (jq ops k) (V k)
  | false=>tmk ops V A0 S k
section tm
variable {ops:Array Oper} {V:Nat→AV} {A0:List AV}
omit [Gl] in
theorem wcg (ts:List AV) (d:Option Tmp) (x:AV):(yi ts d x).length=ts.length:=by
 cases d <;> simp [yi]
omit [Gl] in
theorem j7 {ts:List AV} {d:Option Tmp} {x:AV} {t:Nat}:(yi ts d x)[t]? = if d=some t then (if t < ts.length then some x else none) else ts[t]? := by
 cases d with
 | none=>simp [yi]
 | some d =>
  simp only [yi,List.getElem?_set,Option.some.injEq]
  by_cases h:d=t
  ·subst h;simp
  ·simp [h]
theorem uU (S:Nat→Bool):∀ k,(tmk ops V A0 S k).length=A0.length
 | 0=>rfl
 | k + 1=>by
  unfold tmk
  split
  ·rw [wcg,uU S k]
  ·exact uU S k
theorem waz {S S':Nat→Bool} {t:Nat}:∀ k,(∀ j,j < k→jq ops j=some t→S j=S' j)→(tmk ops V A0 S k)[t]? = (tmk ops V A0 S' k)[t]?
 | 0,_=>rfl
 | k + 1,h=>by
  have ih:=waz k fun j hj=>h j (by omega)
  by_cases hd:jq ops k=some t
  ·have hs:=h k (by omega) hd
   unfold tmk
   rw [← hs]
   split
   ·rw [j7,j7,if_pos hd,if_pos hd,uU,uU]
   ·exact ih
  ·have one:∀ S:Nat→Bool,(tmk ops V A0 S (k + 1))[t]? = (tmk ops V A0 S k)[t]? := fun S=>by
    rw [tmk]
    split
    ·rw [j7,if_neg hd]
    ·rfl
   rw [one,one];exact ih
theorem ya1 {S:Nat→Bool} {t i:Nat} (hs:S i=true) (hd:jq ops i=some t):∀ k,i < k→(∀ j,i < j→j < k→jq ops j=some t→S j=false) →
  (tmk ops V A0 S k)[t]? = if t < A0.length then some (V i) else none
 | 0,h,_=>by omega
 | k + 1,h,hj=>by
  by_cases hk:i=k
  ·subst hk
   unfold tmk
   rw [hs]
   simp only
   rw [j7,if_pos hd,uU]
  ·have ih:=ya1 hs hd k (by omega) fun j h1 h2=>hj j h1 (by omega)
   by_cases hdk:jq ops k=some t
   ·have:=hj k (by omega) (by omega) hdk
    unfold tmk
    rw [this]
    exact ih
   ·unfold tmk
    split
    ·rw [j7,if_neg hdk];exact ih
    ·exact ih
omit [Gl] in
theorem xaz (S:Nat→Bool) (i:Nat) (h1:∀ j,j < i→S j=true) (k:Nat) (hk:k≤i):tmk ops V A0 S k=tmk ops V A0 (fun _=>true) k:=by
 induction k with
 | zero=>rfl
 | succ k ih =>
  unfold tmk
  rw [h1 k (by omega),ih (by omega)]
omit [Gl] in
theorem uak (S:Nat→Bool) (i:Nat) (h2:∀ j,i≤j→S j=false):∀ k,i≤k→tmk ops V A0 S k=tmk ops V A0 S i
 | 0,h=>by obtain rfl:i=0:=by omega
           rfl
 | k + 1,h=>by
  by_cases hk:i=k + 1
  ·rw [hk]
  ·rw [tmk,h2 k (by omega)]
   exact uak S i h2 k (by omega)
end tm
def XT (ops:Array Oper) (V:Nat→AV) (A0:List AV) (i:Nat):List AV:=tmk ops V A0 (fun _=>true) i
structure Plan (P:Program) (T:Tab) (ops:Array Oper) (A0:List AV) (V:Nat→AV) (isW:Nat→Bool) (H:Nat→Heap):Prop where
 back:∀ j i,Bef ops j i→j < i
 apart:∀ i j oi oj d,ops[i]? = some oi→ops[j]? = some oj→i≠j→oi.dst=some d→(d∈oj.looksAt ops∨oj.dst=some d)→Bef ops i j∨Bef ops j i
 total:∀ i j,i < j→j < ops.size→isW i=true→isW j=true→Bef ops i j
 same:∀ i,i < ops.size→isW i=false→H (i + 1)=H i
 ok:∀ i o,ops[i]? = some o →
  (yg ops (XT ops V A0 i) o=some false∧V i=.tup []∧isW i=false) ∨
  (yg ops (XT ops V A0 i) o=some true∧isW i=true∧∀ K:AV→Heap→Prop,K (V i) (H (i + 1))→opW P T ⟨XT ops V A0 i,H i⟩ o K) ∨
  (yg ops (XT ops V A0 i) o=some true∧isW i=false∧∀ p,p≤ops.size→(∀ w,isW w=true→w < p→¬ Bef ops i w)→(∀ w,isW w=true→w < ops.size→p≤w→¬ Bef ops w i) →
   ∀ K:AV→Heap→Prop,K (V i) (H p)→opW P T ⟨XT ops V A0 i,H p⟩ o K)
theorem vbc {P:Program} {T:Tab} {ops:Array Oper} {X Y:List AV} {h:Heap} {o:Oper} (hxy:∀ t,t∈o.looksAt ops→X[t]? = Y[t]?) {K:AV→Heap→Prop} (hw:opW P T ⟨X,h⟩ o K):opW P T ⟨Y,h⟩ o K:=by
 have hev:∀ x∈o.op.operands,St.ev ⟨X,h⟩ x=St.ev ⟨Y,h⟩ x:=fun x hx=>by
  cases x with
  | tmp t =>
   have:t∈o.looksAt ops:=List.mem_append_left _ (List.mem_filterMap.2 ⟨.tmp t,by simpa using hx,rfl⟩)
   simp only [St.ev,List.getD_eq_getElem?_getD,hxy t this]
  | _=>rfl
 obtain ⟨dst,op,type,pos,after,guard⟩:=o
 have hmap:∀ l:List Operand,(∀ x∈l,x∈op.operands)→l.map (St.ev ⟨X,h⟩)=l.map (St.ev ⟨Y,h⟩):=fun l hl=>List.map_congr_left fun x hx=>hev x (hl x hx)
 have hpar:∀ ps:Array (Nat × Operand),(∀ p∈ps.toList,p.2∈op.operands)→(ps.toList.map fun p=>(p.1,St.ev ⟨X,h⟩ p.2))=(ps.toList.map fun p=>(p.1,St.ev ⟨Y,h⟩ p.2)):=fun ps hp =>
  List.map_congr_left fun p hm=>by rw [hev p.2 (hp p hm)]
 have hopt:∀ x:Option Operand,(∀ y,x=some y→y∈op.operands)→x.map (St.ev ⟨X,h⟩)=x.map (St.ev ⟨Y,h⟩):=fun x hx=>by
  cases x with
  | none=>rfl
  | some x=>simp only [Option.map_some,hev x (hx x rfl)]
 cases op <;> simp only [Op.operands] at hev hmap hpar hopt <;> simp only [opW] at hw ⊢
 case move x=>rw [← hev x (by simp)];exact hw
 case assign x=>rw [← hev x (by simp)];exact hw
 case pick c a b=>rw [← hev c (by simp),← hev a (by simp),← hev b (by simp)];exact hw
 case alloc=>exact hw
 case box t x=>rw [← hev x (by simp)];exact hw
 case build t ps=>rw [← hpar ps (fun p hp=>by simp;exact ⟨p.1,by simpa using hp⟩)];exact hw
 case buildSlice t n ps=>rw [← hpar ps (fun p hp=>by simp;exact ⟨p.1,by simpa using hp⟩)];exact hw
 case load t a=>rw [← hev a (by simp)];exact hw
 case store t a x=>rw [← hev a (by simp),← hev x (by simp)];exact hw
 case nilCheck x=>rw [← hev x (by simp)];exact hw
 case binOp op t x y u=>rw [← hev x (by simp),← hev y (by simp)];exact hw
 case unOp op t x=>rw [← hev x (by simp)];exact hw
 case convert s d x=>rw [← hev x (by simp)];exact hw
 case makeFunc f a c=>rw [← hmap a.toList (fun x hx=>by simp;exact .inl (by simpa using hx)),← hmap c.toList (fun x hx=>by simp;exact .inr (by simpa using hx))];exact hw
 case makeSlice t l c=>rw [← hev l (by simp),← hev c (by simp)];exact hw
 case slice t x lo hi mx =>
  rw [← hev x (by simp),← hopt lo (fun y hy=>by simp [hy]),← hopt hi (fun y hy=>by simp [hy]),← hopt mx (fun y hy=>by simp [hy])];exact hw
 case fieldAddr t x f=>rw [← hev x (by simp)];exact hw
 case field t x f=>rw [← hev x (by simp)];exact hw
 case indexAddr t x i=>rw [← hev x (by simp),← hev i (by simp)];exact hw
 case index t x i=>rw [← hev x (by simp),← hev i (by simp)];exact hw
 case extract x i=>rw [← hev x (by simp)];exact hw
 case makeMap t r=>cases r with
  | none=>exact hw
  | some r=>exact hw.elim
 case lookup t x i c=>rw [← hev x (by simp),← hev i (by simp)];exact hw
 case mapUpdate t m k x=>rw [← hev m (by simp),← hev k (by simp),← hev x (by simp)];exact hw
 case insert t m k x=>rw [← hev m (by simp),← hev k (by simp),← hev x (by simp)];exact hw
 case call c =>
  obtain ⟨callee,args,at'⟩:=c
  have hargs:args.toList.map (St.ev ⟨X,h⟩)=args.toList.map (St.ev ⟨Y,h⟩):=hmap _ fun x hx=>by simp [Call.operands];exact .inr (by simpa using hx)
  have harg:∀ x,x∈args.toList→St.ev ⟨X,h⟩ x=St.ev ⟨Y,h⟩ x:=fun x hx=>hev x (by simp [Call.operands];exact .inr (by simpa using hx))
  cases callee with
  | value f =>
   simp only [ve] at hw ⊢
   rw [← hargs,← hev f (by simp [Call.operands])];exact hw
  | invoke r mth=>simp only [ve] at hw
  | builtin b =>
   cases b
   case len =>
    revert hw
    cases h1:at'.toList with
    | nil=>intro hw;simp only [ve,h1] at hw
    | cons t ts1 =>
     cases ts1 with
     | cons _ _=>intro hw;simp only [ve,h1] at hw
     | nil =>
      cases h2:args.toList with
      | nil=>intro hw;simp only [ve,h1,h2] at hw
      | cons x xs =>
       cases xs with
       | cons _ _=>intro hw;simp only [ve,h1,h2] at hw
       | nil =>
        intro hw
        simp only [ve,h1,h2] at hw ⊢
        rw [← harg x (by rw [h2];simp)];exact hw
   case append =>
    revert hw
    rcases h1:at'.toList with _ | ⟨t,_ | ⟨u,_ | ⟨_,_⟩⟩⟩
    ·intro hw;simp only [ve,h1] at hw
    ·intro hw;simp only [ve,h1] at hw
    ·rcases h2:args.toList with _ | ⟨x,_ | ⟨z,_ | ⟨_,_⟩⟩⟩
     ·intro hw;simp only [ve,h1,h2] at hw
     ·intro hw;simp only [ve,h1,h2] at hw
     ·intro hw
      simp only [ve,h1,h2] at hw ⊢
      rw [← harg x (by rw [h2];simp),← harg z (by rw [h2];simp)];exact hw
     ·intro hw;simp only [ve,h1,h2] at hw
    ·intro hw;simp only [ve,h1] at hw
   case max =>
    revert hw
    rcases h2:args.toList with _ | ⟨x,_ | ⟨z,_ | ⟨_,_⟩⟩⟩
    ·intro hw;simp only [ve,h2] at hw
    ·intro hw;simp only [ve,h2] at hw
    ·intro hw
     simp only [ve,h2] at hw ⊢
     rw [← harg x (by rw [h2];simp),← harg z (by rw [h2];simp)];exact hw
    ·intro hw;simp only [ve,h2] at hw
   case min =>
    revert hw
    rcases h2:args.toList with _ | ⟨x,_ | ⟨z,_ | ⟨_,_⟩⟩⟩
    ·intro hw;simp only [ve,h2] at hw
    ·intro hw;simp only [ve,h2] at hw
    ·intro hw
     simp only [ve,h2] at hw ⊢
     rw [← harg x (by rw [h2];simp),← harg z (by rw [h2];simp)];exact hw
    ·intro hw;simp only [ve,h2] at hw
   case copy =>
    revert hw
    rcases h1:at'.toList with _ | ⟨t,_ | ⟨u,_ | ⟨_,_⟩⟩⟩
    ·intro hw;simp only [ve,h1] at hw
    ·intro hw;simp only [ve,h1] at hw
    ·rcases h2:args.toList with _ | ⟨x,_ | ⟨z,_ | ⟨_,_⟩⟩⟩
     ·intro hw;simp only [ve,h1,h2] at hw
     ·intro hw;simp only [ve,h1,h2] at hw
     ·intro hw
      simp only [ve,h1,h2] at hw ⊢
      rw [← harg x (by rw [h2];simp),← harg z (by rw [h2];simp)];exact hw
     ·intro hw;simp only [ve,h1,h2] at hw
    ·intro hw;simp only [ve,h1] at hw
   all_goals exact absurd hw (by simp [ve])
 all_goals exact hw.elim
end
end Go.Abs

namespace Go.Abs
noncomputable section
variable [Gl]
section plan
variable {P:Program} {T:Tab} {ops:Array Oper} {A0:List AV} {V:Nat→AV} {isW:Nat→Bool} {H:Nat→Heap}
theorem Plan.range (pl:Plan P T ops A0 V isW H) {a:Nat}:∀ b,a≤b→b≤ops.size→(∀ w,a≤w→w < b→isW w=false)→H b=H a
 | 0,h,_,_=>by obtain rfl:a=0:=by omega
               rfl
 | b + 1,h,hb,hw=>by
  by_cases hab:a=b + 1
  ·rw [hab]
  ·rw [pl.same b (by omega) (hw b (by omega) (by omega))]
   exact pl.range b (by omega) (by omega) fun w h1 h2=>hw w h1 (by omega)
omit [Gl] in
theorem gb4 {X Y:List AV} {o:Oper} (hxy:∀ t,t∈o.looksAt ops→X[t]? = Y[t]?):yg ops X o=yg ops Y o:=by
 unfold yg
 cases hg:o.guard with
 | none=>rfl
 | some gw =>
  obtain ⟨j,want⟩:=gw
  simp only
  cases hd:(ops[j]?).bind (·.dst) with
  | none=>simp only
  | some d =>
   have:d∈o.looksAt ops:=by simp [Oper.looksAt,hg,hd]
   simp only [List.getD_eq_getElem?_getD,hxy d this]
def on (listed:Array Bool) (j:Nat):Bool:=listed.getD j false
omit [Gl] in
theorem xC {listed:Array Bool} {i j:Nat} (hi:i < listed.size):on (listed.setIfInBounds i true) j=if j=i then true else on listed j:=by
 unfold on
 by_cases h:j=i
 ·subst h;simp [Array.getD,hi]
 ·rw [if_neg h,getD_set_ne false (Ne.symm h)]
structure Inv (pl:Plan P T ops A0 V isW H) (listed:Array Bool) (s:St):Prop where
 size:listed.size=ops.size
 closed:∀ i,on listed i=true→∀ j,Bef ops j i→on listed j=true
 tmps:s.tmps=tmk ops V A0 (on listed) ops.size
 heap:∃ p,p≤ops.size∧s.h=H p∧∀ w,w < ops.size→isW w=true→(on listed w=true↔w < p)
variable (pl:Plan P T ops A0 V isW H)
omit [Gl] in
theorem jbN {listed:Array Bool} {i:Nat} (hc:∀ i,on listed i=true→∀ j,Bef ops j i→on listed j=true) (hr:i∈Region.ready .any ops listed):∀ j,Bef ops j i→on listed j=true:=by
 obtain ⟨_,o,ho,he⟩:=mem_ready.1 hr
 have:∀ a b,Bef ops a b→b=i→on listed a=true:=fun a b hab=>by
  induction hab with
  | edge o' e b ho' he' hb =>
   intro hbi
   subst hbi
   rw [ho] at ho';injection ho' with ho';subst ho'
   exact he e he' hb
  | trans j k b h1 h2 _ ih2 =>
   intro hbi
   exact hc k (ih2 hbi) j h1
 exact fun j hj=>this j i hj rfl
include pl in
theorem gbj (listed:Array Bool) (st:St) (i:Nat) (hi:Inv pl listed st) (hr:i∈Region.ready .any ops listed):∃ o,ops[i]? = some o∧i < listed.size∧listed[i]? = some false ∧
   ((yg ops st.tmps o=some false∧Inv pl (listed.setIfInBounds i true) { tmps:=yi st.tmps o.dst (.tup []),h:=st.h }) ∨
    (yg ops st.tmps o=some true∧opW P T st o fun r h'=>Inv pl (listed.setIfInBounds i true) { tmps:=yi st.tmps o.dst r,h:=h' })):=by
 have hp:=jbN hi.closed hr
 obtain ⟨hun,o,ho,_⟩:=mem_ready.1 hr
 have hlt:i < ops.size:=(Array.getElem?_eq_some_iff.1 ho).1
 have hls:i < listed.size:=by rw [hi.size];exact hlt
 have hff:listed[i]=false:=by simpa [Array.getD,hls] using hun
 have hoff:on listed i=false:=by simp [on,Array.getD,hls,hff]
 refine ⟨o,ho,hls,by rw [Array.getElem?_eq_getElem hls,hff],?_⟩
 have hdo:jq ops i=o.dst:=by simp [jq,ho]
 have names:∀ t,(t∈o.looksAt ops∨o.dst=some t)→∀ j,j < ops.size→jq ops j=some t→j≠i→(on listed j=true∧j < i)∨(on listed j=false∧i < j):=fun t ht j hj hd hne=>by
  have hoj:ops[j]? = some ops[j]:=Array.getElem?_eq_getElem hj
  have hdj:ops[j].dst=some t:=by simpa [jq,hoj] using hd
  rcases pl.apart j i ops[j] o t hoj ho hne hdj ht with h | h
  ·exact .inl ⟨hp j h,pl.back j i h⟩
  ·refine .inr ⟨?_,pl.back i j h⟩
   cases hon:on listed j with
   | false=>rfl
   | true=>rw [hi.closed j hon i h] at hoff;cases hoff
 have agree:∀ t,(t∈o.looksAt ops∨o.dst=some t)→st.tmps[t]? = (XT ops V A0 i)[t]? := fun t ht=>by
  have e1:(tmk ops V A0 (fun j=>decide (j < i)) ops.size)=XT ops V A0 i:=by
   rw [uak (fun j=>decide (j < i)) i (fun j hj=>by simp;omega) ops.size (by omega)]
   exact xaz _ i (fun j hj=>by simpa using hj) i (Nat.le_refl _)
  rw [hi.tmps,← e1]
  refine waz ops.size fun j hj hd => ?_
  by_cases hji:j=i
  ·subst hji;rw [hoff];simp
  ·rcases names t ht j hj hd hji with ⟨h1,h2⟩ | ⟨h1,h2⟩
   ·rw [h1];simp [h2]
   ·rw [h1];simp;omega
 have hlook:∀ t,t∈o.looksAt ops→st.tmps[t]? = (XT ops V A0 i)[t]? := fun t ht=>agree t (.inl ht)
 have hg:=gb4 hlook
 have newt:yi st.tmps o.dst (V i)=tmk ops V A0 (on (listed.setIfInBounds i true)) ops.size:=by
  apply List.ext_getElem?
  intro t
  rw [j7,hi.tmps]
  by_cases hd:o.dst=some t
  ·rw [if_pos hd,uU]
   refine (ya1 (by rw [xC hls,if_pos rfl]) (by rw [hdo];exact hd) ops.size hlt fun j h1 h2 h3 => ?_).symm
   rw [xC hls,if_neg (by omega)]
   rcases names t (.inr hd) j h2 h3 (by omega) with ⟨_,h⟩ | ⟨h,_⟩
   ·omega
   ·exact h
  ·rw [if_neg hd]
   refine waz ops.size fun j hj hdj => ?_
   rw [xC hls,if_neg]
   intro hji
   subst hji
   rw [hdo] at hdj
   exact hd hdj
 have newc:∀ k,on (listed.setIfInBounds i true) k=true→∀ j,Bef ops j k→on (listed.setIfInBounds i true) j=true:=fun k hk j hj=>by
  rw [xC hls]
  split
  ·rfl
  ·rw [xC hls] at hk
   split at hk
   ·rename_i hki;rw [hki] at hj;exact hp j hj
   ·exact hi.closed k hk j hj
 have news:(listed.setIfInBounds i true).size=ops.size:=by simpa using hi.size
 obtain ⟨p,hpn,hh,hpw⟩:=hi.heap
 have quiet:isW i=false→Inv pl (listed.setIfInBounds i true) { tmps:=yi st.tmps o.dst (V i),h:=H p }:=fun hw =>
  ⟨news,newc,newt,p,hpn,rfl,fun w hwn hww=>by
   rw [xC hls,if_neg (fun e=>by rw [e,hw] at hww;cases hww)]
   exact hpw w hwn hww⟩
 rcases pl.ok i o ho with ⟨g1,g2,g3⟩ | ⟨g1,g2,g3⟩ | ⟨g1,g2,g3⟩
 ·refine .inl ⟨hg.trans g1,?_⟩
  rw [← g2,hh]
  exact quiet g3
 ·refine .inr ⟨hg.trans g1,?_⟩
  have hpi:p≤i:=by
   rcases Nat.lt_or_ge i p with h | h
   ·rw [(hpw i hlt g2).2 h] at hoff;cases hoff
   ·exact h
  have hHp:H i=H p:=pl.range i hpi (by omega) fun w h1 h2=>by
   cases hw:isW w with
   | false=>rfl
   | true =>
    have:=(hpw w (by omega) hw).1 (hp w (pl.total w i h2 hlt hw g2))
    omega
  obtain ⟨tm,hs⟩:=st
  simp only at hh;subst hh
  rw [← hHp]
  refine vbc (fun t ht=>(hlook t ht).symm) (g3 _ ⟨news,newc,newt,i + 1,by omega,rfl,fun w hwn hww => ?_⟩)
  rw [xC hls]
  split
  ·rename_i hwi;constructor <;> intro <;> first | omega | trivial
  ·rename_i hwi
   rcases Nat.lt_or_ge w i with h | h
   ·have:=hp w (pl.total w i h hlt hww g2)
    rw [this];constructor <;> intro <;> first | omega | trivial
   ·have hiw:=pl.total i w (by omega) hwn g2 hww
    have:on listed w=false:=by
     cases hon:on listed w with
     | false=>rfl
     | true=>rw [hi.closed w hon i hiw] at hoff;cases hoff
    rw [this]
    constructor
    ·intro h;cases h
    ·intro h;omega
 ·refine .inr ⟨hg.trans g1,?_⟩
  obtain ⟨tm,hs⟩:=st
  simp only at hh;subst hh
  refine vbc (fun t ht=>(hlook t ht).symm) (g3 p hpn (fun w hww hwp hb => ?_) (fun w hww hwn hpw' hb => ?_) _ (quiet g2))
  ·have hwn:w < ops.size:=by omega
   have:=hi.closed w ((hpw w hwn hww).2 hwp) i hb
   rw [this] at hoff;cases hoff
  ·have:=(hpw w hwn hww).1 (hp w hb)
   omega
include pl in
theorem jch {listed:Array Bool} (hi:listed.size=ops.size) (hr:Region.ready .any ops listed=[]):∀ i,i < ops.size→on listed i=true:=by
 intro i
 induction i using Nat.strongRecOn with
 | ind i ih =>
  intro hlt
  cases hon:on listed i with
  | true=>rfl
  | false =>
   exfalso
   have hls:i < listed.size:=by omega
   have:i∈Region.ready .any ops listed:=by
    refine mem_ready.2 ⟨by simpa [on,Array.getD,hls] using hon,ops[i],Array.getElem?_eq_getElem hlt,fun e he hb => ?_⟩
    have hlt':=pl.back e.on i (.edge ops[i] e i (Array.getElem?_eq_getElem hlt) he hb)
    exact ih e.on hlt' (by omega)
   rw [hr] at this
   cases this
include pl in
theorem jbP (hT:wc P T) (hm:P.follows .mixedOrders=true) {n m:Nat} {rnd:Option Nat} {id:Nat} {h0:Heap} {Q:gb→St→Prop} (hh:H 0=h0) (hq:Q .normal ⟨XT ops V A0 ops.size,H ops.size⟩) :
  TodoSem P n m rnd [.code (.region id ops true)] ⟨A0,h0⟩ Q:=by
 refine qa1 hm fun t=>gcg hT (Inv pl) (fun listed st i=>gbj pl listed st i) (fun listed st hi hr => ?_) (fun listed st hi hl => ?_) ops.size t (Array.replicate ops.size false) _ ?_ ?_
 ·have hall:=jch pl hi.size hr
  obtain ⟨p,hp,h1,h2⟩:=hi.heap
  have e1:st.tmps=XT ops V A0 ops.size:=by
   rw [hi.tmps]
   exact xaz _ ops.size hall ops.size (Nat.le_refl _)
  have e2:st.h=H ops.size:=by
   rw [h1]
   refine (pl.range ops.size hp (Nat.le_refl _) fun w h3 h4 => ?_).symm
   cases hw:isW w with
   | false=>rfl
   | true=>have:=(h2 w h4 hw).1 (hall w h4);omega
  obtain ⟨tm,hs⟩:=st
  simp only at e1 e2
  rw [e1,e2];exact hq
 ·cases hr:Region.ready .any ops listed with
  | nil=>rfl
  | cons i r =>
   exfalso
   have hi':i∈Region.ready .any ops listed:=by rw [hr];exact List.mem_cons_self
   obtain ⟨hun,o,ho,_⟩:=mem_ready.1 hi'
   have hlt:i < listed.size:=by rw [hi.size];exact (Array.getElem?_eq_some_iff.1 ho).1
   have hff:listed[i]=false:=by simpa [Array.getD,hlt] using hun
   have:=zar hlt hff
   omega
 ·refine ⟨by simp,fun i hi => ?_,?_,0,Nat.zero_le _,hh.symm,fun w hw _ => ?_⟩
  ·simp [on,Array.getD] at hi
  ·show A0=_
   rw [uak _ 0 (fun j _=>by simp [on,Array.getD]) ops.size (Nat.zero_le _)]
   rfl
  ·simp [on,Array.getD]
 ·simp [left,Array.toList_replicate]
end plan
end
end Go.Abs
