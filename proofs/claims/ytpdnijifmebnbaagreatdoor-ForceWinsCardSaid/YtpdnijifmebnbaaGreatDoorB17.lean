/-
  Steps to a law of this program: AbsDead, AbsOrd, AbsBits, AbsScope, AbsGrow, AbsOrd2, AbsFrz2.
  Conditions: none.
-/
import Derived.Test.YtpdnijifmebnbaaGreatDoorB16
import Derived.Test.YtpdnijifmebnbaaGreatDoorB3
import Derived.Test.YtpdnijifmebnbaaGreatDoorB15
import Derived.IntWalk
set_option linter.unusedVariables false
set_option linter.unusedSimpArgs false
set_option linter.unusedSectionVars false
namespace Go.Abs
noncomputable section
variable [Gl]
abbrev nones (k:Nat):List (Option Blk):=List.replicate k none
omit [Gl] in
theorem zK (B:List (Option Blk)) (k:Nat) (L:List (Option jc)) (b:Nat):(Heap.mk (B ++ nones k) L).blk? b=(Heap.mk B L).blk? b:=by
 unfold Heap.blk?
 simp only [List.getElem?_append]
 split
 ·rfl
 ·rename_i h
  rw [List.getElem?_replicate]
  have:B[b]? = none:=List.getElem?_eq_none (by omega)
  rw [this]
  split <;> rfl
omit [Gl] in
theorem wbY {B:List (Option Blk)} {L:List (Option jc)} (h:(Heap.mk B L).Lt) (k:Nat):(Heap.mk (B ++ nones k) L).Lt:=by
 refine ⟨fun b x hb => ?_,fun l r hl y hy => ?_⟩
 ·rw [zK] at hb
  exact (h.blks b x hb).mono (by simp) (Nat.le_refl _)
 ·exact (h.loops l r hl y hy).mono (by simp) (Nat.le_refl _)
theorem ubl {E:Env} {w:World} {B:List (Option Blk)} {k:Nat} {L:List (Option jc)} (hlt:(Heap.mk B L).Lt):HR E w ⟨B ++ nones k,L⟩↔HR E w ⟨B,L⟩:=by
 constructor
 ·intro hr
  exact ⟨fun b hb=>hr.dead b (by rw [zK];exact hb),fun b rs g fz hb=>hr.rows b rs g fz (by rw [zK];exact hb),fun b es hb=>hr.maps b es (by rw [zK];exact hb),hr.apart,hr.deadl,hr.loops,hr.lapart,hlt,hr.inside,hr.globs⟩
 ·intro hr
  exact ⟨fun b hb=>hr.dead b (by rw [zK] at hb;exact hb),fun b rs g fz hb=>hr.rows b rs g fz (by rw [zK] at hb;exact hb),fun b es hb=>hr.maps b es (by rw [zK] at hb;exact hb),hr.apart,hr.deadl,hr.loops,hr.lapart,wbY hlt k,hr.inside,hr.globs⟩
theorem qa0 {P:Program} {n m:Nat} {rnd:Option Nat} {items:List Item} {st:St} {Q:gb→St→Prop} (g:(∀ x∈st.tmps,Lt st.h.blks.length st.h.loops.length x)→st.h.Lt→n≤st.h.blks.length→TodoSem P n m rnd items st Q):TodoSem P n m rnd items st Q :=
 ⟨fun b E w tmps ds base h1 h2 hb h3 h4=>(g h1.lt h1.heap.lt h4).run b E w tmps ds base h1 h2 hb h3 h4⟩
theorem xbD {P:Program} {n m:Nat} {rnd:Option Nat} {items:List Item} {ts ts':List AV} {B:List (Option Blk)} {k:Nat} {L:List (Option jc)} {Q0 Q:gb→St→Prop} (hts:q8 ts' ts)
  (hl:∀ x∈ts',Lt B.length L.length x) (hh:(Heap.mk B L).Lt) (g:TodoSem P B.length m rnd items ⟨ts',⟨B,L⟩⟩ Q0)
  (hq:∀ e s,Q0 e s→s.h.blks.length=B.length∧s.h.Lt∧Q e ⟨s.tmps,⟨s.h.blks ++ nones k,s.h.loops⟩⟩) (hn:n≤B.length + k):TodoSem P n m rnd items ⟨ts,⟨B ++ nones k,L⟩⟩ Q :=
 ⟨fun b E w tmps ds base h1 h2 hb h3 _ h5 kk cs=>by
  have hs:StR E w ⟨ts',⟨B,L⟩⟩ tmps:=by
   refine ⟨(ubl hh).1 h1.heap,⟨hts.1.trans h1.tmps.size,fun i hi hj => ?_⟩,hl⟩
   have hi':i < ts.length:=by rw [← hts.1];exact hi
   rcases hts.2 i ts'[i] ts[i] (List.getElem?_eq_getElem hi) (List.getElem?_eq_getElem hi') with e | e
   ·show VR _ _ ts'[i] _
    rw [e];exact h1.tmps.val i hi' hj
   ·show VR _ _ ts'[i] _
    rw [e];exact .junk _
  obtain ⟨e,st',E',w',tmps',ds',q,r1,r2,r3,r4,r5,r6⟩:=g.run b E w tmps ds base hs h2 hb h3 (Nat.le_refl _) h5 kk cs
  obtain ⟨q1,q2,q3⟩:=hq e st' q
  obtain ⟨ts2,B2,L2⟩:=st'
  simp only at q1 q2 q3 r5
  refine ⟨e,_,E',w',tmps',ds',q3,⟨(ubl q2).2 r1.heap,r1.tmps,fun x hx => ?_⟩,r2,⟨⟨r3.keeps.cells,fun c hc Ls' hLs' => ?_,r3.keeps.loops⟩,r3.size,r3.os,r3.output,r3.tape,r3.same,r3.F',r3.foot'⟩,?_,r5,r6⟩
  ·exact (r1.lt x hx).mono (by simp) (Nat.le_refl _)
  ·rcases Nat.lt_or_ge c B.length with hc' | hc'
   ·exact r3.keeps.refs c hc' Ls' hLs'
   ·have:=r1.heap.dead c (by unfold Heap.blk?;rw [List.getElem?_eq_none (by show B2.length≤c;omega)];rfl)
    rw [this] at hLs';cases hLs'
  ·show n≤(B2 ++ nones k).length
   simp;omega⟩
theorem vak {P:Program} {n m:Nat} {rnd:Option Nat} {items:List Item} {st:St} {Q0 Q:gb→St→Prop} (g:TodoSem P n m rnd items st Q0)
  (hq:∀ e s,s.h.Lt→(∀ x∈s.tmps,Lt s.h.blks.length s.h.loops.length x)→Q0 e s→∃ ts' B G L,s.h=⟨B ++ G,L⟩∧q8 ts' s.tmps∧(∀ x∈ts',Lt B.length L.length x)∧(Heap.mk B L).Lt∧n≤B.length∧Q e ⟨ts',⟨B,L⟩⟩):TodoSem P n m rnd items st Q :=
 ⟨fun b E w tmps ds base h1 h2 hb h3 h4 h5 kk cs=>by
  obtain ⟨e,st',E',w',tmps',ds',q,r1,r2,r3,r4,r5,r6⟩:=g.run b E w tmps ds base h1 h2 hb h3 h4 h5 kk cs
  obtain ⟨ts',B,G,L,e1,e2,e3,e4,e5,e6⟩:=hq e st' r1.heap.lt r1.lt q
  obtain ⟨ts2,h2'⟩:=st'
  simp only at e1 e2 r5
  subst e1
  obtain ⟨k1,k2⟩:=zZ r1.heap e4 n m
  obtain ⟨_,k3⟩:=zZ r1.heap e4 (B ++ G).length L.length
  refine ⟨e,_,E'.only ⟨B,L⟩,w',tmps',ds',e6,⟨k1,⟨e2.1.trans r1.tmps.size,fun i hi hj => ?_⟩,e3⟩,r2.ext k2,r3.trans (Nat.le_refl _) (Nat.le_refl _) k2,e5,r5,r6⟩
  have hi':i < ts2.length:=by rw [← e2.1];exact hi
  rcases e2.2 i ts'[i] ts2[i] (List.getElem?_eq_getElem hi) (List.getElem?_eq_getElem hi') with e | e
  ·show VR _ _ ts'[i] _
   rw [e];exact (r1.tmps.val i hi' hj).keep k3.keeps (r1.lt _ (List.getElem_mem hi'))
  ·show VR _ _ ts'[i] _
   rw [e];exact .junk _⟩
def uK (P:Program) (l:Nat):List (List AV)→List (Option Blk)→List (Option jc)→(List (Option Blk)→List (Option jc)→Prop)→Prop
 | [],B,L,K=>K B L
 | v :: vs,B,L,K=>∀ k,uo P ⟨B ++ nones k,L⟩ (.yld l) v fun r h'=>∃ B' L',B'.length=B.length∧h'=⟨B' ++ nones k,L'⟩∧((r=.bool true∧uK P l vs B' L' K)∨(r=.bool false∧K B' L'))
structure jaX (P:Program) (g:FuncId) (cap:List AV) (vals:List (List AV)):Prop where
 run:∀ (B:List (Option Blk)) (L:List (Option jc)) (l:Nat) (K:List (Option Blk)→List (Option jc)→Prop),uK P l vals B L K →
  CallSem P g ([.yld l] ++ cap) ⟨B,L⟩ fun r h'=>r=.tup []∧∃ B' L' k,B'.length=B.length∧h'=⟨B' ++ nones k,L'⟩∧K B' L'
def LtB (B:List (Option Blk)):Prop:=∀ b x,(Heap.mk B []).blk? b=some x→x.Lt B.length 0
omit [Gl] in
theorem zaq {B B0:List (Option Blk)} {L0:List (Option jc)} {ro:Option jc} {ts:List AV} (hB:LtB B) (hl:B.length=B0.length) (hh:(Heap.mk B0 L0).Lt) (ht:∀ x∈ts,Lt B0.length L0.length x) (hr:∀ r,ro=some r→r.tmps=ts) :
  (Heap.mk B (L0 ++ [ro])).Lt:=by
 refine ⟨fun b x hb=>(hB b x hb).mono (Nat.le_refl _) (Nat.zero_le _),fun l r hl' y hy => ?_⟩
 simp only [Heap.loop?,List.getElem?_append] at hl'
 split at hl'
 ·have:=hh.loops l r hl' y hy
  exact this.mono (by show B0.length≤B.length;omega) (by simp)
 ·have e:ro=some r:=by
   cases h:l - L0.length with
   | zero=>rw [h] at hl';simpa using hl'
   | succ q=>rw [h] at hl';simp at hl'
  have h1:=hr r e
  rw [h1] at hy
  exact (ht y hy).mono (by show B0.length≤B.length;omega) (by simp)
theorem wab {P:Program} {n m:Nat} {rnd:Option Nat} {f:Operand} {ps:Array Tmp} {as body:Code} {g:FuncId} {cap:List AV} {vals:List (List AV)} {ts:List AV} {B0:List (Option Blk)} {L0:List (Option jc)} {Q:gb→St→Prop}
  (it:jaX P g cap vals) (hf:(St.mk ts ⟨B0,L0⟩).ev f=.fn (.func g) [] cap) (hrd:∀ l0,rnd=some l0→((Heap.mk B0 L0).loop? l0).isSome=true) (J:List (List AV)→List (Option Blk)→Prop) (h0:J vals B0) (hB0:LtB B0)
  (step:∀ v vs B,J (v :: vs) B→B.length=B0.length→v.length=ps.size∧(∀ x∈v,Pure x)∧∀ (r:jc),
   TodoSem P B.length (L0.length + 1) (some L0.length) [.code as] ⟨yo ts ps.toList v,⟨B,L0 ++ [some r]⟩⟩ fun e s=>e=.normal∧∃ B1,s.h=⟨B1,L0 ++ [some r]⟩ ∧
    ∀ (r':jc),TodoSem P B.length (L0.length + 1) (some L0.length) [.code body] ⟨s.tmps,⟨B1,L0 ++ [some r']⟩⟩ fun e s=>∃ B' G,s.h=⟨B' ++ G,L0 ++ [some r']⟩∧B'.length=B.length∧LtB B' ∧
     (match e with | .normal=>J vs B' | .jump j=>qz j=true∧Q (.jump j) ⟨ts,⟨B',L0 ++ [none]⟩⟩))
  (hend:∀ B,J [] B→B.length=B0.length→Q .normal ⟨ts,⟨B,L0 ++ [none]⟩⟩):TodoSem P n m rnd [.code (.rangeFunc f ps as body)] ⟨ts,⟨B0,L0⟩⟩ Q:=by
 refine qa0 fun htl hhl hn => ?_
 simp only at htl hn
 let K':List (Option Blk)→List (Option jc)→Prop:=fun B L=>∃ r,L=L0 ++ [some r]∧r.tmps=ts∧LtB B∧B.length=B0.length∧r.state≠.busy∧(match r.pending with
  | none=>Q .normal ⟨ts,⟨B,L0 ++ [none]⟩⟩
  | some j=>qz j=true∧Q (.jump j) ⟨ts,⟨B,L0 ++ [none]⟩⟩)
 refine vak (Q0:=fun e s=>∃ B k,B.length=B0.length∧LtB B∧s=⟨ts,⟨B ++ nones k,L0 ++ [none]⟩⟩∧Q e ⟨ts,⟨B,L0 ++ [none]⟩⟩) ?_ ?_
 rotate_left
 ·rintro e s _ _ ⟨B,k,e1,e2,rfl,e3⟩
  exact ⟨ts,B,nones k,_,rfl,⟨rfl,fun i x y hx hy=>.inl (by rw [hx] at hy;injection hy)⟩,fun x hx=>(htl x hx).mono (by omega) (by simp),zaq e2 e1 hhl htl (fun r h=>by cases h),by omega,e3⟩
 have key:∀ (vs:List (List AV)) (B:List (Option Blk)),J vs B→B.length=B0.length→LtB B →
   uK P L0.length vs B (L0 ++ [some { state:=.ready,pending:=none,tmps:=ts,params:=ps,assign:=as,body:=body }]) K':=by
  intro vs
  induction vs with
  | nil =>
   intro B hJ hl hB
   exact ⟨_,rfl,rfl,hB,hl,by simp,hend B hJ hl⟩
  | cons v vs ih =>
   intro B hJ hl hB k
   obtain ⟨hn2,hp,hs⟩:=step v vs B hJ hl
   have hlp:=gM L0 (B ++ nones k) (some { state:=.ready,pending:=none,tmps:=ts,params:=ps,assign:=as,body:=body })
   simp only [uo,hlp]
   refine ⟨trivial,jax hlp hn2 ?_⟩
   have hsp:∀ x∈yo ts ps.toList v,Lt B.length (L0 ++ [some ({ state:=.ready,pending:=none,tmps:=ts,params:=ps,assign:=as,body:=body }:jc)]).length x :=
    xaC _ _ _ (fun x hx=>(htl x hx).mono (by omega) (by simp)) (fun x hx=>(hp x hx).lt _ _)
   have run:TodoSem P B.length (L0.length + 1) (some L0.length) [.code as,.beginRound,.code body] ⟨yo ts ps.toList v,⟨B,L0 ++ [some { state:=.ready,pending:=none,tmps:=ts,params:=ps,assign:=as,body:=body }]⟩⟩
     (fun e s=>∃ B' G,s.h=⟨B' ++ G,L0 ++ [some { state:=.busy,pending:=none,tmps:=ts,params:=ps,assign:=as,body:=body }]⟩∧B'.length=B.length∧LtB B' ∧
      (match e with | .normal=>J vs B' | .jump j=>qz j=true∧Q (.jump j) ⟨ts,⟨B',L0 ++ [none]⟩⟩)):=by
    refine uL (xs:=[.code as]) rfl ((hs _).mono fun e s hq => ?_)
    obtain ⟨rfl,B1,e1,hb⟩:=hq
    obtain ⟨ts1,hh⟩:=s
    simp only at e1 hb
    subst e1
    refine uL (xs:=[.beginRound]) rfl (gay (gM _ _ _) rfl ?_)
    show TodoSem P _ _ _ [.code body] _ _
    simp only [vE]
    exact hb _
   refine xbD (ts':=yo ts ps.toList v) (Q0:=fun e s=>∃ B',s.h=⟨B',L0 ++ [some { state:=.busy,pending:=none,tmps:=ts,params:=ps,assign:=as,body:=body }]⟩∧B'.length=B.length∧LtB B' ∧
     (match e with | .normal=>J vs B' | .jump j=>qz j=true∧Q (.jump j) ⟨ts,⟨B',L0 ++ [none]⟩⟩)) ⟨rfl,fun i x y hx hy=>.inl (by rw [hx] at hy;injection hy)⟩ hsp (zaq hB hl hhl htl (fun r h=>by injection h with h;subst h;rfl)) ?_ ?_ (by simp)
   ·show TodoSem P B.length (L0 ++ [_]).length _ _ _ _
    rw [List.length_append]
    refine vak run ?_
    rintro e s _ _ ⟨B',G,e1,e2,e3,e4⟩
    refine ⟨s.tmps.map fun _=>.junk,B',G,_,e1,⟨by simp,fun i x y hx hy=>.inr ?_⟩,fun x hx => ?_,zaq e3 (e2.trans hl) hhl htl (fun r h=>by injection h with h;subst h;rfl),by omega,B',rfl,e2,e3,e4⟩
    ·rw [List.getElem?_map] at hx
     cases hq:s.tmps[i]? with
     | none=>rw [hq] at hx;cases hx
     | some z=>rw [hq] at hx;injection hx with hx;exact hx.symm
    ·obtain ⟨z,_,rfl⟩:=List.mem_map.1 hx;exact .junk
   ·rintro e s ⟨B',e1,e2,e3,e4⟩
    obtain ⟨ts1,hh⟩:=s
    simp only at e1
    subst e1
    refine ⟨e2,zaq e3 (e2.trans hl) hhl htl (fun r h=>by injection h with h;subst h;rfl),?_⟩
    unfold qB
    simp only [gM]
    cases e with
    | normal =>
     simp only [vE]
     exact ⟨B',_,e2,rfl,.inl ⟨trivial,ih B' e4 (e2.trans hl) e3⟩⟩
    | jump j =>
     refine ⟨e4.1,?_⟩
     simp only [vE]
     exact ⟨B',_,e2,rfl,.inr ⟨trivial,_,rfl,rfl,e3,e2.trans hl,by simp,e4⟩⟩
 refine jaA hf hrd ((it.run B0 _ L0.length K' (key vals B0 h0 rfl hB0)).mono ?_)
 rintro r h' ⟨rfl,B',L',k,e1,rfl,r1,rfl,e2,e3,e4,e5,e6⟩
 unfold yM
 simp only [gM]
 refine ⟨e5,?_⟩
 cases hp:r1.pending with
 | none =>
  rw [hp] at e6
  simp only [vE]
  exact ⟨B',k,e4,e3,rfl,e6⟩
 | some j =>
  rw [hp] at e6
  refine ⟨e6.1,?_⟩
  simp only [vE]
  exact ⟨B',k,e4,e3,rfl,e6.2⟩
theorem ybv {P:Program} {h0 h:Heap} {l:Nat} {args:List AV} {K:AV→Heap→Prop} (hle:h0.le h) (g:uo P h0 (.yld l) args K):uo P h (.yld l) args K:=by
 simp only [uo] at g ⊢
 obtain ⟨g1,g2⟩:=g
 have hl:h.loop? l=h0.loop? l:=by unfold Heap.loop?;rw [hle.2.1]
 refine ⟨by rw [hl];exact g1,⟨fun E w t hr hs c cs hat => ?_⟩⟩
 obtain ⟨o,vs,h1,h2,h3,h4⟩:=hs
 obtain ⟨k1,k2⟩:=yb4 hr hle h.blks.length h.loops.length
 obtain ⟨r,h',E',w',v,q,s1,s2,s3,s4,s5,s6,s7⟩:=g2.run (E.only h0) w t k1 ⟨o,vs,h1,h2.keep k2.keeps h3,fun x hx=>by rw [hle.1,hle.2.1];exact h3 x hx,h4⟩ c cs hat
 rw [hle.1] at s4 s6
 rw [hle.2.1] at s5 s6
 exact ⟨r,h',E',w',v,q,s1,s2,s3,s4,s5,k2.trans (Nat.le_refl _) (Nat.le_refl _) s6,s7⟩
omit [Gl] in
theorem ubg (B:List (Option Blk)) (k l:Nat):(Heap.mk B (List.replicate k none)).loop? l=none:=by
 unfold Heap.loop?
 simp only [List.getElem?_replicate]
 split <;> rfl
theorem vbl {E:Env} {w:World} {B:List (Option Blk)} {k:Nat} (hB:LtB B) (hr:HR E w ⟨B,List.replicate k none⟩):HR E w ⟨B,[]⟩ :=
 ⟨hr.dead,hr.rows,hr.maps,hr.apart,fun l _=>hr.deadl l (ubg B k l),fun l r h=>by simp [Heap.loop?] at h,hr.lapart,⟨hB,fun l r h=>by simp [Heap.loop?] at h⟩,hr.inside,hr.globs⟩
theorem jav {P:Program} {f:FuncId} {args:List AV} {h:Heap} {K K':AV→Heap→Prop} (g:CallSem P f args h K') (hl:h.loops=[])
  (hk:∀ r h',K' r h'→∃ B G k,h'=⟨B ++ G,List.replicate k none⟩∧h.blks.length≤B.length∧LtB B∧Lt B.length 0 r∧K r ⟨B,[]⟩):CallSem P f args h K :=
 ⟨g.ok,fun E w vs h1 h2 h3 cs=>by
  obtain ⟨r,h',E',w',v,fr,q,s1,s2,s3,s4,s5,s6,s7⟩:=g.run E w vs h1 h2 h3 cs
  obtain ⟨B,G,k,rfl,e2,e3,e4,e5⟩:=hk r h' q
  have hlt:(Heap.mk B (List.replicate k none)).Lt:=⟨fun b x hb=>(e3 b x hb).mono (Nat.le_refl _) (Nat.zero_le _),fun l r h=>by rw [ubg] at h;cases h⟩
  obtain ⟨k1,k2⟩:=zZ s2 hlt h.blks.length h.loops.length
  obtain ⟨_,k3⟩:=zZ s2 hlt B.length 0
  refine ⟨r,_,E'.only ⟨B,List.replicate k none⟩,w',v,fr,e5,s1.keep k3.keeps e4,vbl e3 k1,e4,e2,by rw [hl];exact Nat.zero_le _,s6.trans (Nat.le_refl _) (Nat.le_refl _) k2,s7⟩⟩
theorem gbu {P:Program} {f:FuncId} {rest:List AV} {h:Heap} {A:Type} {Φ:A→Prop} {row:List AV} {row':A→List AV} {B:Nat} {R:AV} {K:AV→Heap→Prop} (hb:h.blk? B=some (.rows [row] false false)) (hB:B < h.blks.length)
  (hfz:∀ (b:Nat) (rs:List (List AV)) (g fz:Bool),h.blk? b=some (.rows rs g fz)→fz=false) (ha:∀ x∈rest,Pure x) (hp:∀ x∈row,Pure x) (hp':∀ a,Φ a→∀ x∈row' a,Pure x)
  (hc:CallSem P f (.ptr 0 0 0 :: rest) ⟨[some (.rows [row] false false)],[]⟩ fun r h'=>r=R∧∃ a,Φ a∧h'=⟨[some (.rows [row' a] false false)],[]⟩) (hR:Pure R)
  (hk:∀ a,Φ a→K R (h.put B (.rows [row' a] false false))):CallSem P f (.ptr B 0 0 :: rest) h K:=by
 have ren:∀ (σ:Nat→Nat) (m:Nat) (l:List AV),(∀ x∈l,Pure x)→qT σ m (some (.rows [l] false false)) (some (.rows [l] false false)):=fun σ m l hl =>
  .rows _ _ _ _ rfl (fun i hi hj=>rfl) fun i hi hj j h1 h2=>by
   have:i=0:=by simpa using hi
   subst this
   exact .pure _ (hl _ (List.getElem_mem h1))
 refine zcd (args1:=.ptr 0 0 0 :: rest) (σ:=fun b=>if b=0 then B else h.blks.length + (b - 1)) (n1:=1) (h1:=⟨[some (.rows [row] false false)],[]⟩) ⟨⟨fun b hb => ?_,fun b hb => ?_,fun b c h => ?_⟩,rfl,rfl,⟨fun b x hb => ?_,fun b x hb => ?_⟩,fun b hb' => ?_,fun b rs g fz _ hb=>hfz b rs g fz hb⟩ rfl
  (fun i hi hj => ?_) (fun x hx => ?_) hc ?_
 ·rw [if_pos (by omega)];exact hB
 ·rw [if_neg (by omega)]
 ·split at h <;> split at h <;> omega
 ·cases b with
  | zero =>
   obtain rfl:Blk.rows [row] false false=x:=by simpa [Heap.blk?] using hb
   intro r hr y hy
   obtain rfl:r=row:=by simpa using hr
   exact (hp y hy).lt _ _
  | succ b=>simp [Heap.blk?] at hb
 ·simp [Heap.loop?] at hb
 ·obtain rfl:b=0:=by omega
  show qT _ _ (some (.rows [row] false false)) (h.blk? B)
  rw [hb]
  exact ren _ _ _ hp
 ·cases i with
  | zero=>exact .ptr 0 0 0
  | succ i=>exact .pure _ (ha _ (List.getElem_mem _))
 ·rcases List.mem_cons.1 hx with rfl | hx
  ·exact .ptr _ _ _ (by omega)
  ·exact (ha x hx).lt _ _
 ·rintro r1 h1' ⟨rfl,a,hΦ,rfl⟩ _
  refine ⟨_,_,.pure _ hR,⟨?_,?_,?_,?_,?_,?_⟩,hk a hΦ⟩
  ·simp [Heap.put]
  ·intro b hb'
   obtain rfl:b=0:=by simp at hb';omega
   have e:(h.put B (.rows [row' a] false false)).blk? B=some (.rows [row' a] false false):=by simp [Heap.put,Heap.blk?,hB]
   show qT _ _ (some (.rows [row' a] false false)) ((h.put B (.rows [row' a] false false)).blk? B)
   rw [e]
   exact ren _ _ _ (hp' a hΦ)
  ·intro b hb' hne
   have:B≠b:=hne 0 (by omega)
   simp [Heap.put,Heap.blk?,List.getElem?_set_ne this]
  ·exact Nat.le_refl _
  ·intro l' _;rfl
  ·intro l' hl'
   show (h.loops[l']?).join=none
   rw [List.getElem?_eq_none hl'];rfl
end
end Go.Abs

namespace Go.Abs
noncomputable section
variable [Gl]
def gaJ (σ:Nat→Nat) (N:Nat) (ts:List AV):List (Nat × AV)→Prop
 | []=>True
 | (i,x) :: l=>(∃ y,ts[i]? = some y∧RenF σ N x y)∧gaJ σ N ts l
omit [Gl] in
theorem jbe {σ:Nat→Nat} {N:Nat} {ts:List AV}:∀ {l:List (Nat × AV)},gaJ σ N ts l→∀ i x,ur l i=some x→∃ y,ts[i]? = some y∧RenF σ N x y
 | [],_,i,x,h=>by cases h
 | (a,z) :: l,hm,i,x,h=>by
  unfold ur at h
  split at h
  ·rename_i e
   obtain rfl:=Nat.eq_of_beq_eq_true e
   injection h with h;subst h
   exact hm.1
  ·exact jbe hm.2 i x h
structure RenH (N len:Nat) (pt:List (Nat × AV)) (hp:Heap) (l:List Nat) (s:St):Prop where
 perm:xac l s.h.blks.length=true
 fix:((List.range N).all fun b=>Nat.beq (muN l s.h.blks.length b) b)=true
 blen:hp.blks.length=s.h.blks.length
 low:N≤s.h.blks.length
 blks:∀ b,b < s.h.blks.length→zP (muN l s.h.blks.length) N (hp.blk? b) (s.h.blk? (muN l s.h.blks.length b))
 loops:s.h.loops=[]∧hp.loops=[]
 tlen:s.tmps.length=len
 tmps:gaJ (muN l s.h.blks.length) N s.tmps pt
theorem RenH.st {N len:Nat} {pt:List (Nat × AV)} {hp:Heap} {l:List Nat} {s:St} (h:RenH N len pt hp l s) :
  vT (muN l s.h.blks.length) (ji l s.h.blks.length) N ⟨zj pt (fun _=>.junk) len 0,hp⟩ s:=by
 obtain ⟨v1,v2,v3,v4⟩:=uaG h.perm
 have out:∀ b,¬ b < s.h.blks.length→muN l s.h.blks.length b=b:=fun b hb=>by
  unfold muN
  have:Nat.blt b s.h.blks.length=false:=by rw [← Bool.not_eq_true,Nat.blt_eq];exact hb
  rw [this]
 refine ⟨⟨v1,v2,fun b hb => ?_⟩,h.blen,h.low,fun b hb => ?_,fun b => ?_,by rw [h.loops.1];exact h.loops.2,fun l' r hr => ?_,?_,fun i hi hj => ?_⟩
 ·exact Nat.eq_of_beq_eq_true ((List.all_eq_true.1 h.fix) b (List.mem_range.2 hb))
 ·rcases Nat.lt_or_ge b s.h.blks.length with hh | hh
  ·exact hh
  ·rw [out b (by omega)] at hb;exact hb
 ·rcases Nat.lt_or_ge b s.h.blks.length with hh | hh
  ·exact h.blks b hh
  ·rw [out b (by omega)]
   have e1:hp.blk? b=none:=by
    have:=h.blen
    simp only [Heap.blk?,List.getElem?_eq_none (show hp.blks.length≤b by omega)]
    rfl
   have e2:s.h.blk? b=none:=by
    simp only [Heap.blk?,List.getElem?_eq_none hh]
    rfl
   rw [show (St.mk (zj pt (fun _=>.junk) len 0) hp).h.blk? b=none from e1,e2]
   exact .dead
 ·rw [vbg h.loops.1] at hr;cases hr
 ·show (zj pt (fun _=>.junk) len 0).length=_
  rw [wac,h.tlen]
 ·have hg:(zj pt (fun _=>AV.junk) len 0)[i]? = some ((zj pt (fun _=>AV.junk) len 0)[i]'hi):=List.getElem?_eq_getElem hi
  rcases qW len 0 i _ hg with h1 | ⟨_,h2⟩
  ·rw [Nat.zero_add] at h1
   obtain ⟨y,k1,k2⟩:=jbe h.tmps i _ h1
   rw [List.getElem?_eq_getElem hj] at k1
   injection k1 with k1
   rw [k1];exact k2
  ·show RenF _ _ ((zj pt (fun _=>AV.junk) len 0)[i]'hi) _
   rw [h2];exact .junk _
section ord
variable [Bare] [FH] {P:Program} {T:Tab} {n m:Nat} {rnd:Option Nat} {ops:Array Oper} {Q:gb→St→Prop}
omit [FH] in
theorem vbR {opx:Array Oper} {st:St} {π ρ:Nat→Nat} {X:List (Nat × Nat)} (sm:Sim ops opx π ρ X) (a b:Nat) (hab:a≠b) (ha:a < opx.size) (hb:b < opx.size) (hp:xac (zl opx a b) opx.size=true)
  (hA:∀ π ρ X,Sim ops (wC opx (fun i=>i) (fun i=>i) a b) π ρ X→yx P n m rnd ops X st Q)
  (hB:∀ π ρ X,Sim ops (wC opx (ji (zl opx a b) opx.size) (muN (zl opx a b) opx.size) (ji (zl opx a b) opx.size b) (ji (zl opx a b) opx.size a)) π ρ X→yx P n m rnd ops X st Q) :
  yx P n m rnd ops X st Q:=by
 obtain ⟨v1,v2,v3,v4⟩:=uaG hp
 have hne:ρ a≠ρ b:=fun e=>by
  have:=congrArg π e
  rw [sm.rp,sm.rp] at this
  exact hab this
 refine ybb hne (hA _ _ _ (sm.step (κ:=fun i=>i) (μ:=fun i=>i) (p:=a) (q:=b) (fun _=>rfl) (fun _=>rfl) (fun _ h=>h) (fun _ h=>h) ha)) ?_
 have:=hB _ _ _ (sm.step (κ:=ji (zl opx a b) opx.size) (μ:=muN (zl opx a b) opx.size) (p:=ji (zl opx a b) opx.size b) (q:=ji (zl opx a b) opx.size a) v1 v2 v3 v4 (v3 b hb))
 rw [v1,v1] at this
 exact this
theorem wM {opx:Array Oper} {π ρ:Nat→Nat} {X:List (Nat × Nat)} {A0:List AV} {h:Heap} (hT:wc P T) (N len:Nat) (pt:List (Nat × AV)) (hp:Heap) (l:List Nat) (hN:h.blks.length≤N)
  (main:∀ g,yH pt g len 0 fun ts=>FH.fh hp fun h=>Q .normal ⟨ts,h⟩) (sm:Sim ops opx π ρ X) (d:uv opx=true)
  (leaf:wt P T opx (fun e s=>match e with | .normal=>RenH N len pt hp l s | .jump _=>False) opx.toList 0 [] [] ⟨A0,h⟩):yx P n m rnd ops X ⟨A0,h⟩ Q:=by
 refine xbb fun t hk => ?_
 obtain ⟨V,isW,H,pl,h0,hq⟩:=ybc d leaf
 refine ubP h0 (qa3 sm pl hT hk ⟨_,_,N,_,hN,hq.st,?_⟩)
 have:=main fun _=>.junk
 rw [van,FH.eq] at this
 exact this
def opA (ops:Array Oper) (a b:Nat):Array Oper:=wC ops (fun i=>i) (fun i=>i) a b
def opB (ops:Array Oper) (a b:Nat):Array Oper:=wC ops (ji (zl ops a b) ops.size) (muN (zl ops a b) ops.size) (ji (zl ops a b) ops.size b) (ji (zl ops a b) ops.size a)
def kB (ops:Array Oper) (a b x:Nat):Nat:=ji (zl ops a b) ops.size x
def xL (ops:Array Oper) (a b:Nat):Bool := !(Nat.beq a b) && Nat.blt a ops.size && Nat.blt b ops.size && xac (zl ops a b) ops.size
omit [FH] in
theorem xX {opx:Array Oper} {st:St} (a b:Nat) (h:xL opx a b=true)
  (hA:∀ π ρ X,Sim ops (opA opx a b) π ρ X→yx P n m rnd ops X st Q) (hB:∀ π ρ X,Sim ops (opB opx a b) π ρ X→yx P n m rnd ops X st Q):∀ π ρ X,Sim ops opx π ρ X→yx P n m rnd ops X st Q:=fun π ρ X sm=>by
 simp only [xL,Bool.and_eq_true,Bool.not_eq_true',Nat.blt_eq] at h
 obtain ⟨⟨⟨h1,h2⟩,h3⟩,h4⟩:=h
 exact vbR sm a b (fun e=>by subst e;rw [Nat.beq_refl] at h1;cases h1) h2 h3 h4 hA hB
def xa1 (ops:Array Oper) (a b c:Nat):Bool :=
 xL ops a b && xL (opA ops a b) b c && xL (opB (opA ops a b) b c) (kB (opA ops a b) b c a) (kB (opA ops a b) b c c) &&
 xL (opB ops a b) (kB ops a b a) (kB ops a b c) && xL (opB (opB ops a b) (kB ops a b a) (kB ops a b c)) (kB (opB ops a b) (kB ops a b a) (kB ops a b c) (kB ops a b b)) (kB (opB ops a b) (kB ops a b a) (kB ops a b c) (kB ops a b c))
def zaA (ops:Array Oper) (a b c:Nat):Array Oper:=opA (opA ops a b) b c
def gaz (ops:Array Oper) (a b c:Nat):Array Oper:=opA (opB (opA ops a b) b c) (kB (opA ops a b) b c a) (kB (opA ops a b) b c c)
def qaz (ops:Array Oper) (a b c:Nat):Array Oper:=opB (opB (opA ops a b) b c) (kB (opA ops a b) b c a) (kB (opA ops a b) b c c)
def jaz (ops:Array Oper) (a b c:Nat):Array Oper:=opA (opB ops a b) (kB ops a b a) (kB ops a b c)
def uaz (ops:Array Oper) (a b c:Nat):Array Oper:=opA (opB (opB ops a b) (kB ops a b a) (kB ops a b c)) (kB (opB ops a b) (kB ops a b a) (kB ops a b c) (kB ops a b b)) (kB (opB ops a b) (kB ops a b a) (kB ops a b c) (kB ops a b c))
def vaz (ops:Array Oper) (a b c:Nat):Array Oper:=opB (opB (opB ops a b) (kB ops a b a) (kB ops a b c)) (kB (opB ops a b) (kB ops a b a) (kB ops a b c) (kB ops a b b)) (kB (opB ops a b) (kB ops a b a) (kB ops a b c) (kB ops a b c))
theorem vbN {A0:List AV} {h:Heap} {id:Nat} (hT:wc P T) (hm:P.follows .mixedOrders=true) (a b c:Nat) (N len:Nat) (pt:List (Nat × AV)) (hp:Heap) (hN:h.blks.length≤N) (hb:xa1 ops a b c=true)
  (hd:(uv (zaA ops a b c) && uv (gaz ops a b c) && uv (qaz ops a b c) && uv (jaz ops a b c) && uv (uaz ops a b c) && uv (vaz ops a b c))=true)
  (main:∀ g,yH pt g len 0 fun ts=>FH.fh hp fun h=>Q .normal ⟨ts,h⟩)
  (l1 l2 l3 l4 l5 l6:List Nat)
  (q1:wt P T (zaA ops a b c) (fun e s=>match e with | .normal=>RenH N len pt hp l1 s | .jump _=>False) (zaA ops a b c).toList 0 [] [] ⟨A0,h⟩)
  (q2:wt P T (gaz ops a b c) (fun e s=>match e with | .normal=>RenH N len pt hp l2 s | .jump _=>False) (gaz ops a b c).toList 0 [] [] ⟨A0,h⟩)
  (q3:wt P T (qaz ops a b c) (fun e s=>match e with | .normal=>RenH N len pt hp l3 s | .jump _=>False) (qaz ops a b c).toList 0 [] [] ⟨A0,h⟩)
  (q4:wt P T (jaz ops a b c) (fun e s=>match e with | .normal=>RenH N len pt hp l4 s | .jump _=>False) (jaz ops a b c).toList 0 [] [] ⟨A0,h⟩)
  (q5:wt P T (uaz ops a b c) (fun e s=>match e with | .normal=>RenH N len pt hp l5 s | .jump _=>False) (uaz ops a b c).toList 0 [] [] ⟨A0,h⟩)
  (q6:wt P T (vaz ops a b c) (fun e s=>match e with | .normal=>RenH N len pt hp l6 s | .jump _=>False) (vaz ops a b c).toList 0 [] [] ⟨A0,h⟩) :
  TodoSem P n m rnd [.code (.region id ops true)] ⟨A0,h⟩ Q:=by
 simp only [xa1,Bool.and_eq_true] at hb
 obtain ⟨⟨⟨⟨b1,b2⟩,b3⟩,b4⟩,b5⟩:=hb
 simp only [Bool.and_eq_true] at hd
 obtain ⟨⟨⟨⟨⟨d1,d2⟩,d3⟩,d4⟩,d5⟩,d6⟩:=hd
 exact zao hm (xX a b b1
  (xX b c b2 (fun _ _ _ sm=>wM hT N len pt hp l1 hN main sm d1 q1)
   (xX _ _ b3 (fun _ _ _ sm=>wM hT N len pt hp l2 hN main sm d2 q2) (fun _ _ _ sm=>wM hT N len pt hp l3 hN main sm d3 q3)))
  (xX _ _ b4 (fun _ _ _ sm=>wM hT N len pt hp l4 hN main sm d4 q4)
   (xX _ _ b5 (fun _ _ _ sm=>wM hT N len pt hp l5 hN main sm d5 q5) (fun _ _ _ sm=>wM hT N len pt hp l6 hN main sm d6 q6)))
  _ _ _ (Sim.id ops))
end ord
end
end Go.Abs

namespace Go.Abs
noncomputable section
theorem jB (n:Nat) (h:n < 18446744073709551616):IntKind.u64.wrap (n:Int)=(n:Int):=IntWalk.u64_in _ (by omega)
def w7 (x s:Int):Int:=IntKind.u64.wrap ((BitVec.ofInt IntKind.u64.bits (x.fdiv (2 ^ (min s.toNat IntKind.u64.bits))) &&& BitVec.ofInt IntKind.u64.bits 1).toNat)
theorem gbw (x s:Nat) (hs:s < 64):w7 x s=((if x.testBit s then 1 else 0:Nat):Int):=by
 unfold w7
 have hb:IntKind.u64.bits=64:=rfl
 rw [hb,Int.toNat_natCast,Nat.min_eq_left (by omega)]
 have e1:((x:Int)).fdiv (2 ^ s)=((x / 2 ^ s:Nat):Int):=by
  rw [Int.fdiv_eq_ediv_of_nonneg _ (by exact_mod_cast Nat.zero_le (2 ^ s))]
  push_cast;rfl
 rw [e1,BitVec.ofInt_natCast]
 have e2:(BitVec.ofNat 64 (x / 2 ^ s) &&& BitVec.ofInt 64 1).toNat=if x.testBit s then 1 else 0:=by
  have:BitVec.ofInt 64 1=BitVec.ofNat 64 1:=rfl
  rw [this,BitVec.toNat_and,BitVec.toNat_ofNat,BitVec.toNat_ofNat]
  rw [show (1:Nat) % 2 ^ 64=1 from by decide,Nat.and_one_is_mod,Nat.mod_mod_of_dvd _ (by decide:2∣2 ^ 64)]
  rw [Nat.testBit_eq_decide_div_mod_eq]
  rcases Nat.mod_two_eq_zero_or_one (x / 2 ^ s) with h | h <;> simp [h]
 rw [e2]
 split <;> exact jB _ (by omega)
theorem zaV (x s:Nat) (hs:s < 64):(w7 x s == 1)=x.testBit s:=by
 rw [gbw x s hs]
 cases x.testBit s <;> rfl
theorem qce (x s:Nat) (hs:s < 64):(w7 x s == 0) = !x.testBit s:=by
 rw [gbw x s hs]
 cases x.testBit s <;> rfl
def wk (a b:Nat):Nat:=(BitVec.ofNat 64 a &&& ~~~ BitVec.ofNat 64 b).toNat
theorem wag (a b:Nat):wk a b < 18446744073709551616:=(BitVec.ofNat 64 a &&& ~~~ BitVec.ofNat 64 b).isLt
theorem yav (a b i:Nat) (hi:i < 64):(wk a b).testBit i=(a.testBit i && !b.testBit i):=by
 unfold wk
 rw [← BitVec.getLsbD,BitVec.getLsbD_and,BitVec.getLsbD_not,BitVec.getLsbD_ofNat,BitVec.getLsbD_ofNat]
 simp [hi]
theorem wD (a b:Nat):IntKind.u64.wrap ((BitVec.ofInt IntKind.u64.bits (a:Int) &&& ~~~ BitVec.ofInt IntKind.u64.bits (b:Int)).toNat)=((wk a b:Nat):Int):=by
 have hb:IntKind.u64.bits=64:=rfl
 rw [hb,BitVec.ofInt_natCast,BitVec.ofInt_natCast]
 exact jB _ (wag a b)
theorem zx (x s:Nat) (hx:x < 18446744073709551616) (hs:s < 64) :
  IntKind.u64.wrap ((BitVec.ofInt IntKind.u64.bits (x:Int) ||| BitVec.ofInt IntKind.u64.bits (IntKind.u64.wrap (1 * 2 ^ (min (s:Int).toNat IntKind.u64.bits)))).toNat)=((x ||| 2 ^ s:Nat):Int):=by
 have hb:IntKind.u64.bits=64:=rfl
 have hp:2 ^ s < 18446744073709551616:=Nat.pow_lt_pow_right (by decide:1 < 2) hs
 rw [hb,Int.toNat_natCast,Nat.min_eq_left (by omega)]
 have e1:(1:Int) * 2 ^ s=((2 ^ s:Nat):Int):=by push_cast;omega
 rw [e1,jB _ hp,BitVec.ofInt_natCast,BitVec.ofInt_natCast,BitVec.toNat_or,BitVec.toNat_ofNat,BitVec.toNat_ofNat,Nat.mod_eq_of_lt hx,Nat.mod_eq_of_lt hp]
 exact jB _ (Nat.or_lt_two_pow (n:=64) hx hp)
def qb (n:Nat):Nat:=2 ^ n - 1
theorem gaW (n:Nat) (hn:n < 64):IntKind.u64.wrap (1 * 2 ^ (min (n:Int).toNat IntKind.u64.bits)) - 1=((qb n:Nat):Int):=by
 have hb:IntKind.u64.bits=64:=rfl
 have hp:2 ^ n < 18446744073709551616:=Nat.pow_lt_pow_right (by decide:1 < 2) hn
 have h0:0 < 2 ^ n:=Nat.two_pow_pos n
 rw [hb,Int.toNat_natCast,Nat.min_eq_left (by omega)]
 have e1:(1:Int) * 2 ^ n=((2 ^ n:Nat):Int):=by push_cast;omega
 rw [e1,jB _ hp]
 unfold qb
 omega
theorem y8 (n i:Nat):(qb n).testBit i=decide (i < n):=Nat.testBit_two_pow_sub_one n i
theorem yax (n:Nat) (hn:n < 64):qb n < 18446744073709551616:=by
 have hp:2 ^ n < 18446744073709551616:=Nat.pow_lt_pow_right (by decide:1 < 2) hn
 unfold qb;omega
end
end Go.Abs

namespace Go.Abs
noncomputable section
variable [Gl]
theorem qay {P:Program} {n:Nat} {rnd:Option Nat} {items:List Item} {ts ts':List AV} {B:List (Option Blk)} {j:Nat} {Q:gb→St→Prop} (hts:q8 ts' ts) (hl:∀ x∈ts',Lt B.length 0 x) (hB:LtB B)
  (g:TodoSem P n 0 rnd items ⟨ts',⟨B,[]⟩⟩ Q):TodoSem P n 0 rnd items ⟨ts,⟨B,List.replicate j none⟩⟩ Q :=
 ⟨fun b E w tmps ds base h1 h2 hb h3 h4 _ kk cs=>by
  have hs:StR E w ⟨ts',⟨B,[]⟩⟩ tmps:=by
   refine ⟨vbl hB h1.heap,⟨hts.1.trans h1.tmps.size,fun i hi hj => ?_⟩,hl⟩
   have hi':i < ts.length:=by rw [← hts.1];exact hi
   rcases hts.2 i ts'[i] ts[i] (List.getElem?_eq_getElem hi) (List.getElem?_eq_getElem hi') with e | e
   ·show VR _ _ ts'[i] _
    rw [e];exact h1.tmps.val i hi' hj
   ·show VR _ _ ts'[i] _
    rw [e];exact .junk _
  exact g.run b E w tmps ds base hs h2 hb h3 h4 (Nat.zero_le _) kk cs⟩
def xaY {A:Type} (ts:A→List AV) (H:A→List (Option Blk)) (a:A) (s:St):Prop:=∃ j,s.h=⟨H a,List.replicate j none⟩∧q8 (ts a) s.tmps
theorem za5 {P:Program} {n:Nat} {rnd:Option Nat} {r1 b:Code} {l:Nat} {st0:St} {Q:gb→St→Prop} {A:Type} (mea:A→Nat) (I:A→Prop) (ts:A→List AV) (H:A→List (Option Blk))
  (hr1:findLabel r1 l=none) (side:∀ a,I a→(∀ x∈ts a,Lt (H a).length 0 x)∧LtB (H a))
  (first:TodoSem P n 0 rnd [.code r1] st0 fun e s=>e=.normal∧∃ a,I a∧xaY ts H a s)
  (step:∀ a,I a→TodoSem P n 0 rnd [.code b] ⟨ts a,⟨H a,[]⟩⟩ fun e s=>match e with
   | .jump (.goto l')=>l'=l∧∃ a',mea a' < mea a∧I a'∧xaY ts H a' s
   | e=>Q e s):TodoSem P n 0 rnd [.code (.seq r1 (.seq (.label l) b)),.inScope (.seq r1 (.seq (.label l) b))] st0 Q:=by
 have hfl:findLabel (.seq r1 (.seq (.label l) b)) l=some (.seq .skip b):=by simp [findLabel,hr1]
 have key:∀ (k:Nat) (a:A),mea a=k→I a→∀ x:Code,(x=b∨x=.seq .skip b)→TodoSem P n 0 rnd [.code x,.inScope (.seq r1 (.seq (.label l) b))] ⟨ts a,⟨H a,[]⟩⟩ Q:=by
  intro k
  induction k using Nat.strongRecOn with
  | ind k ih =>
   intro a hk hI x hx
   have hb:TodoSem P n 0 rnd [.code b] ⟨ts a,⟨H a,[]⟩⟩ (uD P n 0 rnd (.seq r1 (.seq (.label l) b)) Q):=by
    refine (step a hI).mono fun e s hq => ?_
    cases e with
    | normal=>exact hq
    | jump j =>
     cases j with
     | goto l' =>
      obtain ⟨rfl,a',h1,h2,j,h3,h4⟩:=hq
      simp only [uD,hfl]
      obtain ⟨ts1,h⟩:=s
      simp only at h3 h4
      subst h3
      obtain ⟨s1,s2⟩:=side a' h2
      exact qay h4 s1 s2 (ih (mea a') (hk ▸ h1) a' rfl h2 _ (.inr rfl))
     | _=>exact hq
   refine zV ?_
   rcases hx with rfl | rfl
   ·exact hb
   ·exact qU (uaA hb)
 have last:∀ (a:A) (s:St),I a→xaY ts H a s→TodoSem P n 0 rnd [.code b] s (uD P n 0 rnd (.seq r1 (.seq (.label l) b)) Q):=by
  intro a s hI ⟨j,h3,h4⟩
  obtain ⟨ts1,h⟩:=s
  simp only at h3 h4
  subst h3
  obtain ⟨s1,s2⟩:=side a hI
  refine qay h4 s1 s2 ((step a hI).mono fun e s hq => ?_)
  cases e with
  | normal=>exact hq
  | jump j =>
   cases j with
   | goto l' =>
    obtain ⟨rfl,a',h1,h2,j,h3,h4⟩:=hq
    simp only [uD,hfl]
    obtain ⟨ts1,h⟩:=s
    simp only at h3 h4
    subst h3
    obtain ⟨s1,s2⟩:=side a' h2
    exact qay h4 s1 s2 (key (mea a') a' rfl h2 _ (.inr rfl))
   | _=>exact hq
 refine zV (qU (first.mono fun e s hq => ?_))
 obtain ⟨rfl,a,hI,hF⟩:=hq
 exact qU (qaA (last a s hI hF))
end
end Go.Abs

namespace Go.Abs
noncomputable section
variable [Gl]
def zaj (P:Program) (l:Nat):List (List AV)→List (Option Blk)→List (Option jc)→(List (Option Blk)→List (Option jc)→Prop)→Prop
 | [],B,L,K=>K B L
 | v :: vs,B,L,K=>∀ k,uo P ⟨B ++ nones k,L⟩ (.yld l) v fun r h'=>∃ B' L',B.length + k≤B'.length∧h'=⟨B',L'⟩∧((r=.bool true∧zaj P l vs B' L' K)∨(r=.bool false∧K B' L'))
structure ybz (P:Program) (g:FuncId) (cap:List AV) (vals:List (List AV)):Prop where
 run:∀ (B:List (Option Blk)) (L:List (Option jc)) (l:Nat) (K:List (Option Blk)→List (Option jc)→Prop),zaj P l vals B L K →
  CallSem P g ([.yld l] ++ cap) ⟨B,L⟩ fun r h'=>r=.tup []∧∃ B' L' k,B.length≤B'.length∧h'=⟨B' ++ nones k,L'⟩∧K B' L'
omit [Gl] in
theorem gbf {B B0:List (Option Blk)} {L0:List (Option jc)} {ro:Option jc} {ts:List AV} (hB:LtB B) (hl:B0.length≤B.length) (hh:(Heap.mk B0 L0).Lt) (ht:∀ x∈ts,Lt B0.length L0.length x) (hr:∀ r,ro=some r→r.tmps=ts) :
  (Heap.mk B (L0 ++ [ro])).Lt:=by
 refine ⟨fun b x hb=>(hB b x hb).mono (Nat.le_refl _) (Nat.zero_le _),fun l r hl' y hy => ?_⟩
 simp only [Heap.loop?,List.getElem?_append] at hl'
 split at hl'
 ·have:=hh.loops l r hl' y hy
  exact this.mono (by show B0.length≤B.length;omega) (by simp)
 ·have e:ro=some r:=by
   cases h:l - L0.length with
   | zero=>rw [h] at hl';simpa using hl'
   | succ q=>rw [h] at hl';simp at hl'
  have h1:=hr r e
  rw [h1] at hy
  exact (ht y hy).mono (by show B0.length≤B.length;omega) (by simp)
omit [Gl] in
theorem ubY {B:List (Option Blk)} (h:LtB B) (k:Nat):LtB (B ++ nones k):=fun b x hb=>by
 rw [zK] at hb
 exact (h b x hb).mono (by simp) (Nat.le_refl _)
theorem zbO {P:Program} {n m:Nat} {rnd:Option Nat} {f:Operand} {ps:Array Tmp} {as body:Code} {g:FuncId} {cap:List AV} {vals:List (List AV)} {ts:List AV} {B0:List (Option Blk)} {L0:List (Option jc)} {Q:gb→St→Prop}
  (it:ybz P g cap vals) (hf:(St.mk ts ⟨B0,L0⟩).ev f=.fn (.func g) [] cap) (hrd:∀ l0,rnd=some l0→((Heap.mk B0 L0).loop? l0).isSome=true) (J:List (List AV)→List (Option Blk)→Prop) (h0:J vals B0) (hB0:LtB B0)
  (hJ:∀ vs B k,J vs B→J vs (B ++ nones k))
  (step:∀ v vs B,J (v :: vs) B→B0.length≤B.length→v.length=ps.size∧(∀ x∈v,Pure x)∧∀ (r:jc),
   TodoSem P B.length (L0.length + 1) (some L0.length) [.code as] ⟨yo ts ps.toList v,⟨B,L0 ++ [some r]⟩⟩ fun e s=>e=.normal∧∃ B1,s.h=⟨B1,L0 ++ [some r]⟩ ∧
    ∀ (r':jc),TodoSem P B.length (L0.length + 1) (some L0.length) [.code body] ⟨s.tmps,⟨B1,L0 ++ [some r']⟩⟩ fun e s=>∃ B' G,s.h=⟨B' ++ G,L0 ++ [some r']⟩∧B.length≤B'.length∧LtB B' ∧
     (match e with | .normal=>J vs B' | .jump j=>qz j=true∧Q (.jump j) ⟨ts,⟨B',L0 ++ [none]⟩⟩))
  (hend:∀ B,J [] B→B0.length≤B.length→Q .normal ⟨ts,⟨B,L0 ++ [none]⟩⟩):TodoSem P n m rnd [.code (.rangeFunc f ps as body)] ⟨ts,⟨B0,L0⟩⟩ Q:=by
 refine qa0 fun htl hhl hn => ?_
 simp only at htl hn
 let K':List (Option Blk)→List (Option jc)→Prop:=fun B L=>∃ r,L=L0 ++ [some r]∧r.tmps=ts∧LtB B∧B0.length≤B.length∧r.state≠.busy∧(match r.pending with
  | none=>Q .normal ⟨ts,⟨B,L0 ++ [none]⟩⟩
  | some j=>qz j=true∧Q (.jump j) ⟨ts,⟨B,L0 ++ [none]⟩⟩)
 refine vak (Q0:=fun e s=>∃ B k,B0.length≤B.length∧LtB B∧s=⟨ts,⟨B ++ nones k,L0 ++ [none]⟩⟩∧Q e ⟨ts,⟨B,L0 ++ [none]⟩⟩) ?_ ?_
 rotate_left
 ·rintro e s _ _ ⟨B,k,e1,e2,rfl,e3⟩
  exact ⟨ts,B,nones k,_,rfl,⟨rfl,fun i x y hx hy=>.inl (by rw [hx] at hy;injection hy)⟩,fun x hx=>(htl x hx).mono e1 (by simp),gbf e2 e1 hhl htl (fun r h=>by cases h),by omega,e3⟩
 have key:∀ (vs:List (List AV)) (B:List (Option Blk)),J vs B→B0.length≤B.length→LtB B →
   zaj P L0.length vs B (L0 ++ [some { state:=.ready,pending:=none,tmps:=ts,params:=ps,assign:=as,body:=body }]) K':=by
  intro vs
  induction vs with
  | nil =>
   intro B hJ hl hB
   exact ⟨_,rfl,rfl,hB,hl,by simp,hend B hJ hl⟩
  | cons v vs ih =>
   intro B hJB hl hB k
   have hl2:B0.length≤(B ++ nones k).length:=by simp;omega
   have hB2:=ubY hB k
   obtain ⟨hn2,hp,hs⟩:=step v vs (B ++ nones k) (hJ _ _ k hJB) hl2
   have hlen:B.length + k=(B ++ nones k).length:=by simp
   rw [hlen]
   generalize B ++ nones k=C at *
   have hlp:=gM L0 C (some { state:=.ready,pending:=none,tmps:=ts,params:=ps,assign:=as,body:=body })
   simp only [uo,hlp]
   refine ⟨trivial,jax hlp hn2 ?_⟩
   have run:TodoSem P C.length (L0.length + 1) (some L0.length) [.code as,.beginRound,.code body] ⟨yo ts ps.toList v,⟨C,L0 ++ [some { state:=.ready,pending:=none,tmps:=ts,params:=ps,assign:=as,body:=body }]⟩⟩
     (fun e s=>∃ B' G,s.h=⟨B' ++ G,L0 ++ [some { state:=.busy,pending:=none,tmps:=ts,params:=ps,assign:=as,body:=body }]⟩∧C.length≤B'.length∧LtB B' ∧
      (match e with | .normal=>J vs B' | .jump j=>qz j=true∧Q (.jump j) ⟨ts,⟨B',L0 ++ [none]⟩⟩)):=by
    refine uL (xs:=[.code as]) rfl ((hs _).mono fun e s hq => ?_)
    obtain ⟨rfl,B1,e1,hb⟩:=hq
    obtain ⟨ts1,hh⟩:=s
    simp only at e1 hb
    subst e1
    refine uL (xs:=[.beginRound]) rfl (gay (gM _ _ _) rfl ?_)
    show TodoSem P _ _ _ [.code body] _ _
    simp only [vE]
    exact hb _
   show TodoSem P C.length (L0 ++ [_]).length _ _ _ _
   rw [List.length_append]
   refine vak run ?_
   rintro e s _ _ ⟨B',G,e1,e2,e3,e4⟩
   refine ⟨s.tmps.map fun _=>.junk,B',G,_,e1,⟨by simp,fun i x y hx hy=>.inr ?_⟩,fun x hx => ?_,gbf e3 (by omega) hhl htl (fun r h=>by injection h with h;subst h;rfl),e2,?_⟩
   ·rw [List.getElem?_map] at hx
    cases hq:s.tmps[i]? with
    | none=>rw [hq] at hx;cases hx
    | some z=>rw [hq] at hx;injection hx with hx;exact hx.symm
   ·obtain ⟨z,_,rfl⟩:=List.mem_map.1 hx;exact .junk
   ·unfold qB
    simp only [gM]
    cases e with
    | normal =>
     simp only [vE]
     exact ⟨B',_,e2,rfl,.inl ⟨trivial,ih B' e4 (by omega) e3⟩⟩
    | jump j =>
     refine ⟨e4.1,?_⟩
     simp only [vE]
     exact ⟨B',_,e2,rfl,.inr ⟨trivial,_,rfl,rfl,e3,by omega,by simp,e4⟩⟩
 refine jaA hf hrd ((it.run B0 _ L0.length K' (key vals B0 h0 (Nat.le_refl _) hB0)).mono ?_)
 rintro r h' ⟨rfl,B',L',k,e1,rfl,r1,rfl,e2,e3,e4,e5,e6⟩
 unfold yM
 simp only [gM]
 refine ⟨e5,?_⟩
 cases hp:r1.pending with
 | none =>
  rw [hp] at e6
  simp only [vE]
  exact ⟨B',k,e4,e3,rfl,e6⟩
 | some j =>
  rw [hp] at e6
  refine ⟨e6.1,?_⟩
  simp only [vE]
  exact ⟨B',k,e4,e3,rfl,e6.2⟩
end
end Go.Abs

namespace Go.Abs
noncomputable section
variable [Gl] [Bare] [FH] {P:Program} {T:Tab} {n m:Nat} {rnd:Option Nat} {ops:Array Oper} {Q:gb→St→Prop}
theorem ubN {A0:List AV} {h:Heap} {id:Nat} (hT:wc P T) (hm:P.follows .mixedOrders=true) (a b:Nat) (N len:Nat) (pt:List (Nat × AV)) (hp:Heap) (hN:h.blks.length≤N) (hb:xL ops a b=true)
  (hd:(uv (opA ops a b) && uv (opB ops a b))=true)
  (main:∀ g,yH pt g len 0 fun ts=>FH.fh hp fun h=>Q .normal ⟨ts,h⟩)
  (l1 l2:List Nat)
  (q1:wt P T (opA ops a b) (fun e s=>match e with | .normal=>RenH N len pt hp l1 s | .jump _=>False) (opA ops a b).toList 0 [] [] ⟨A0,h⟩)
  (q2:wt P T (opB ops a b) (fun e s=>match e with | .normal=>RenH N len pt hp l2 s | .jump _=>False) (opB ops a b).toList 0 [] [] ⟨A0,h⟩) :
  TodoSem P n m rnd [.code (.region id ops true)] ⟨A0,h⟩ Q:=by
 simp only [Bool.and_eq_true] at hd
 obtain ⟨d1,d2⟩:=hd
 exact zao hm (xX a b hb (fun _ _ _ sm=>wM hT N len pt hp l1 hN main sm d1 q1) (fun _ _ _ sm=>wM hT N len pt hp l2 hN main sm d2 q2) _ _ _ (Sim.id ops))
end
end Go.Abs

namespace Go.Abs
noncomputable section
variable [Gl]
theorem zbD {P:Program} {n m:Nat} {rnd:Option Nat} {items:List Item} {ts ts':List AV} {h:Heap} {Q:gb→St→Prop} (b:Nat) {rs:List (List AV)} {g:Bool} (hb:h.blk? b=some (.rows rs g false))
  (hl:ts'.length=ts.length) (hz:∀ (i:Nat) (hi:i < ts'.length) (hj:i < ts.length),ts'[i]=ts[i]∨FrzT (h.put b (.rows rs g true)) ts[i] ts'[i]∧Pure ts'[i])
  (hc:TodoSem P n m rnd items ⟨ts',h.put b (.rows rs g true)⟩ Q):TodoSem P n m rnd items ⟨ts,h⟩ Q :=
 ⟨fun b0 E w tmps ds base h1 h2 hb0 h3 h4 h5 kk cs=>by
  obtain ⟨E',q1,q2⟩:=vb4 h1.heap hb h.blks.length h.loops.length
  have hlen:(h.put b (.rows rs g true)).blks.length=h.blks.length:=by simp [Heap.put]
  have ht:TR E' w ts tmps:=h1.tmps.keep q2.keeps h1.lt
  have hs:StR E' w ⟨ts',h.put b (.rows rs g true)⟩ tmps:=by
   refine ⟨q1,⟨hl.trans ht.size,fun i hi hj => ?_⟩,fun x hx => ?_⟩
   ·have hi':i < ts.length:=by rw [← hl];exact hi
    rcases hz i hi hi' with e | ⟨e,hp⟩
    ·show VR _ _ ts'[i] _
     rw [e];exact ht.val i hi' hj
    ·have hv:=e.VR q1 _ (ht.val i hi' hj)
     exact hv.keep (zR (E:=qf E'.F) (E':=E') (w:=w) (w':=w) fun B o v a b=>⟨a,b⟩) hp
   ·obtain ⟨i,hi,rfl⟩:=List.getElem_of_mem hx
    show Lt (h.put b (.rows rs g true)).blks.length (h.put b (.rows rs g true)).loops.length ts'[i]
    rw [hlen]
    have hi':i < ts.length:=by rw [← hl];exact hi
    rcases hz i hi hi' with e | ⟨e,hp⟩
    ·rw [e];exact h1.lt _ (List.getElem_mem hi')
    ·exact hp.lt _ _
  have x:Ext n m E w E' w:=q2.mono h4 h5
  obtain ⟨e,st',E2,w',tmps',ds',q,r1,r2,r3,r4,r5,r6⟩:=hc.run b0 E' w tmps ds base hs (h2.ext x) hb0 (h3.ext x) (by show n≤(h.put b (.rows rs g true)).blks.length;rw [hlen];exact h4) h5 kk cs
  exact ⟨e,st',E2,w',tmps',ds',q,r1,r2,x.trans (Nat.le_refl _) (Nat.le_refl _) r3,r4,r5,r6⟩⟩
theorem gbC {P:Program} {n m:Nat} {rnd:Option Nat} {items:List Item} {ts:List AV} {h:Heap} {Q:gb→St→Prop} (b i:Nat) {rs:List (List AV)} {g:Bool} {c:Option Nat} (hb:h.blk? b=some (.rows rs g false)) (hp:∀ r∈rs,∀ x∈r,Pure x)
  (hi:ts[i]? = some (.ms b 0 rs.length c)) (hc:TodoSem P n m rnd items ⟨ts.set i (.vs rs c),h.put b (.rows rs g true)⟩ Q):TodoSem P n m rnd items ⟨ts,h⟩ Q:=by
 have hblt:b < h.blks.length:=qA hb
 have pv:Pure (.vs rs c):=.vs _ _ fun t ht k hk=>hp _ (List.getElem_mem ht) _ (List.getElem_mem hk)
 refine zbD b hb (by simp) (fun t ht hj => ?_) hc
 rw [List.getElem_set]
 split
 ·rename_i e
  subst e
  right
  have:ts[i]=.ms b 0 rs.length c:=by rw [List.getElem?_eq_getElem hj] at hi;exact Option.some.inj hi
  rw [this]
  refine ⟨.ms b 0 rs.length c rs g rs ?_ rfl (by omega) (fun t ht hr=>by simp) fun t ht hr k h1 h2 => ?_,pv⟩
  ·rw [gJ h _ b b hblt,if_pos rfl]
  ·simp only [Nat.zero_add]
   exact .pure _ (hp _ (List.getElem_mem ht) _ (List.getElem_mem h1))
 ·exact .inl rfl
end
end Go.Abs
