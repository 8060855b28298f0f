/-
  Steps to a law of this program: AbsLoop.
  Conditions: none.
-/
import Derived.Test.YtpdnijifmebnbaaGreatDoorB2
import Derived.RangeFuncIn
set_option linter.unusedVariables false
set_option linter.unusedSimpArgs false
set_option linter.unusedSectionVars false
namespace Go.Abs
noncomputable section
variable [Gl]
def Heap.pushLoop (h:Heap) (r:jc):Heap:={ h with loops:=h.loops ++ [some r] }
def Heap.setLoop (h:Heap) (l:Nat) (r:Option jc):Heap:={ h with loops:=h.loops.set l r }
def Env.withLoop (E:Env) (l o:Nat):Env:={ E with lam:=fun l'=>if l'=l then some o else E.lam l' }
def Env.dropLoop (E:Env) (l:Nat):Env:={ E with lam:=fun l'=>if l'=l then none else E.lam l' }
omit [Gl] in
theorem uaK (h:Heap) (r:jc) (l:Nat):(h.pushLoop r).loop? l=if l=h.loops.length then some r else h.loop? l:=by
 unfold Heap.loop? Heap.pushLoop
 by_cases hb:l=h.loops.length
 ·subst hb;simp
 ·rw [if_neg hb]
  rcases Nat.lt_or_ge l h.loops.length with hl | hl
  ·simp [List.getElem?_append_left hl]
  ·have h1:(h.loops ++ [some r])[l]? = none:=List.getElem?_eq_none (by simp;omega)
   have h2:h.loops[l]? = none:=List.getElem?_eq_none hl
   simp [h1,h2]
omit [Gl] in
theorem zY (h:Heap) (r:Option jc) (l l':Nat) (hl:l < h.loops.length):(h.setLoop l r).loop? l'=if l'=l then r else h.loop? l':=by
 unfold Heap.loop? Heap.setLoop
 by_cases hb:l'=l
 ·subst hb;simp [hl]
 ·simp [Ne.symm hb,hb]
omit [Gl] in
theorem xaq {h:Heap} {l:Nat} {r:jc} (hl:h.loop? l=some r):l < h.loops.length:=by
 rcases Nat.lt_or_ge l h.loops.length with h' | h'
 ·exact h'
 ·simp [Heap.loop?,List.getElem?_eq_none h'] at hl
omit [Gl] in
theorem wE (h:Heap) (l:Nat) (r:Option jc):(h.setLoop l r).loops.length=h.loops.length:=by simp [Heap.setLoop]
theorem zb4 {E:Env} {w w':World} {h:Heap} {r:jc} {o:Nat} {ct:Array Value} {df:Nat} {fi:FuncId} (hr:HR E w h) (g:Grows w w') (ho:w.heap.size≤o)
  (hl:w'.heap[o]? = some (.loop { state:=r.state,pending:=r.pending,fn:=fi,tmps:=ct,params:=r.params,assign:=r.assign,body:=r.body,defers:=df }))
  (ht:TR E w r.tmps ct) (hlt:∀ x∈r.tmps,Lt h.blks.length h.loops.length x) :
  HR (E.withLoop h.loops.length o) w' (h.pushLoop r)∧Ext h.blks.length h.loops.length E w (E.withLoop h.loops.length o) w':=by
 obtain ⟨x1,hr1⟩:=g.ext hr h.blks.length h.loops.length
 have hlam:∀ l,l≠h.loops.length→(E.withLoop h.loops.length o).lam l=E.lam l:=fun l hl=>by show (if l=_ then _ else _)=_;rw [if_neg hl]
 have hlam':(E.withLoop h.loops.length o).lam h.loops.length=some o:=by show (if _ then _ else _)=_;rw [if_pos rfl]
 have hold:∀ l o',E.lam l=some o'→o' < w.heap.size:=fun l o' h'=>xi hr (.inr ⟨l,h'⟩)
 have keeps:∀ w0:World,Keeps h.blks.length h.loops.length E w0 (E.withLoop h.loops.length o) w0:=fun w0 =>
  ⟨fun B o v a b=>⟨a,b⟩,fun b hb Ls' hLs'=>⟨Ls',hLs',fun L hL=>⟨L,hL,rfl,rfl,rfl,rfl,Nat.le_refl _⟩⟩,fun l hl o' ho'=>by rwa [hlam l (by omega)] at ho'⟩
 have hfoot:∀ B,B < w.heap.size→zf (E.withLoop h.loops.length o) B→zf E B:=by
  rintro B hB (⟨b,Ls,L,h1,h2,rfl⟩ | ⟨l,h1⟩)
  ·exact .inl ⟨b,Ls,L,h1,h2,rfl⟩
  ·by_cases hll:l=h.loops.length
   ·subst hll;rw [hlam'] at h1;injection h1 with h1;omega
   ·rw [hlam l hll] at h1;exact .inr ⟨l,h1⟩
 refine uy (B:=Ext ..) ⟨x1.keeps.trans (Nat.le_refl _) (Nat.le_refl _) (keeps w'),x1.size,x1.os,x1.output,x1.tape,x1.same,x1.F',hfoot⟩ fun hx => ?_
 have len:(h.pushLoop r).loops.length=h.loops.length + 1:=by simp [Heap.pushLoop]
 refine ⟨hr1.dead,fun b rs g fz hb => ?_,fun b es hb => ?_,hr1.apart,fun l hl' => ?_,fun l r' hl' => ?_,fun l l' o' h1 h2 => ?_,⟨fun b x hb => ?_,fun l r' hl' x hx => ?_⟩,hr1.inside,hr.globs.ext hx⟩
 ·obtain ⟨Ls,h1,h2⟩:=hr1.rows b rs g fz hb
  refine ⟨Ls,h1,h2.one,h2.now,fun L hL => ?_,h2.apart⟩
  have hl:=h2.all L hL
  obtain ⟨arr,el,a1,a2,a3⟩:=hl.lies
  refine ⟨⟨arr,el,a1,a2,fun i hi hi' j hj => ?_⟩,hl.len,hl.fits,hl.sz,hl.own,hl.free⟩
  obtain ⟨v,b1,b2,b3⟩:=a3 i hi hi' j hj
  exact ⟨v,b1,b2.keep (keeps w') (hr.lt.blks b _ hb _ (List.getElem_mem hi) _ (List.getElem_mem hj)),b3⟩
 ·obtain ⟨Ls,h1,⟨L,ces,clock,rfl,h3,h4,h5,h6⟩⟩:=hr1.maps b es hb
  refine ⟨[L],h1,⟨L,ces,clock,rfl,h3,h4,h5,fun i hi hj => ?_⟩⟩
  have hl:=hr.lt.blks b _ hb _ (List.getElem_mem hi)
  exact ⟨(h6 i hi hj).1.keep (keeps w') hl.1,(h6 i hi hj).2.keep (keeps w') hl.2⟩
 ·rw [uaK] at hl'
  split at hl'
  ·cases hl'
  ·rename_i hne;rw [hlam l hne];exact hr1.deadl l hl'
 ·rw [uaK] at hl'
  split at hl'
  ·rename_i he;subst he
   injection hl' with hl';subst hl'
   exact ⟨o,hlam',⟨ct,df,fi,hl,ht.keep (x1.keeps.trans (Nat.le_refl _) (Nat.le_refl _) (keeps w')) hlt⟩⟩
  ·rename_i hne
   obtain ⟨o',h1,⟨ct',df',fi',h2,h3⟩⟩:=hr1.loops l r' hl'
   exact ⟨o',by rw [hlam l hne];exact h1,⟨ct',df',fi',h2,h3.keep (keeps w') (hr.lt.loops l r' hl')⟩⟩
 ·by_cases e1:l=h.loops.length
  ·by_cases e2:l'=h.loops.length
   ·omega
   ·rw [hlam l' e2] at h2
    rw [e1,hlam'] at h1;injection h1 with h1
    have:=hold l' o' h2;omega
  ·rw [hlam l e1] at h1
   by_cases e2:l'=h.loops.length
   ·rw [e2,hlam'] at h2;injection h2 with h2
    have:=hold l o' h1;omega
   ·rw [hlam l' e2] at h2
    exact hr1.lapart l l' o' h1 h2
 ·rw [len];exact (hr.lt.blks b x hb).mono (Nat.le_refl _) (by omega)
 ·rw [len]
  rw [uaK] at hl'
  split at hl'
  ·injection hl' with hl';subst hl'
   exact (hlt x hx).mono (Nat.le_refl _) (by omega)
  ·exact (hr.lt.loops l r' hl' x hx).mono (Nat.le_refl _) (by omega)
theorem jar {E:Env} {w:World} {h:Heap} {l o:Nat} {r:jc} {R:Loop} (n m:Nat) (hr:HR E w h) (hl:h.loop? l=some r) (ho:E.lam l=some o) (hR:w.heap[o]? = some (.loop R)) (s:LoopState) (p:Option Code) :
  HR E { w with heap:=w.heap.setIfInBounds o (.loop { R with state:=s,pending:=p }) } (h.setLoop l (some { r with state:=s,pending:=p })) ∧
   Ext n m E w E { w with heap:=w.heap.setIfInBounds o (.loop { R with state:=s,pending:=p }) }:=by
 have hlt:o < w.heap.size:=by
  rcases Nat.lt_or_ge o w.heap.size with h | h
  ·exact h
  ·rw [Array.getElem?_eq_none h] at hR;cases hR
 have hll:=xaq hl
 have hold:∀ B,B≠o→(w.heap.setIfInBounds o (.loop { R with state:=s,pending:=p }))[B]? = w.heap[B]? := fun B hB=>Array.getElem?_setIfInBounds_ne (Ne.symm hB)
 have hnew:(w.heap.setIfInBounds o (.loop { R with state:=s,pending:=p }))[o]? = some (.loop { R with state:=s,pending:=p }):=Array.getElem?_setIfInBounds_self_of_lt hlt
 have keeps:∀ n m,Keeps n m E w E { w with heap:=w.heap.setIfInBounds o (.loop { R with state:=s,pending:=p }) }:=fun n m=>by
  refine ⟨fun B off v hF hc=>⟨hF,?_⟩,fun b hb Ls' hLs'=>⟨Ls',hLs',fun L hL=>⟨L,hL,rfl,rfl,rfl,rfl,Nat.le_refl _⟩⟩,fun _ _ _ h=>h⟩
  have hB:B≠o:=by
   rintro rfl
   simp [World.cell?,hR] at hc
  simp only [World.cell?,hold B hB] at hc ⊢;exact hc
 refine uy (B:=Ext ..) ⟨keeps n m,by simp,rfl,rfl,rfl,fun B hB hf=>hold B (fun e=>hf (.inr ⟨l,e ▸ ho⟩)),fun _ _ h=>.inl h,fun _ _ h=>h⟩ fun hx => ?_
 have hne:∀ (b:Nat) (Ls:List Loc) (L:Loc) c el fr,w.heap[L.blk]? = some (.cells c el fr)→L.blk≠o:=fun b Ls L c el fr h1 e=>by
  rw [e,hR] at h1;cases h1
 refine ⟨hr.dead,fun b rs g fz hb => ?_,fun b es hb => ?_,hr.apart,fun l' hl' => ?_,fun l' r' hl' => ?_,hr.lapart,⟨fun b x hb => ?_,fun l' r' hl' x hx => ?_⟩,fun B hB=>by simpa using hr.inside B hB,hr.globs.ext hx⟩
 ·obtain ⟨Ls,h1,h2⟩:=hr.rows b rs g fz hb
  refine ⟨Ls,h1,h2.one,h2.now,fun L hL => ?_,h2.apart⟩
  have hl:=h2.all L hL
  obtain ⟨arr,el,a1,a2,a3⟩:=hl.lies
  refine ⟨⟨arr,el,(hold _ (hne b Ls L _ _ _ a1)).trans a1,a2,fun i hi hi' j hj => ?_⟩,hl.len,hl.fits,hl.sz,hl.own,hl.free⟩
  obtain ⟨v,b1,b2,b3⟩:=a3 i hi hi' j hj
  exact ⟨v,b1,b2.keep (keeps _ _) (hr.lt.blks b _ hb _ (List.getElem_mem hi) _ (List.getElem_mem hj)),b3⟩
 ·obtain ⟨Ls,h1,⟨L,ces,clock,rfl,h3,h4,h5,h6⟩⟩:=hr.maps b es hb
  have hno:L.blk≠o:=fun e=>by rw [e,hR] at h4;cases h4
  refine ⟨[L],h1,⟨L,ces,clock,rfl,h3,(hold _ hno).trans h4,h5,fun i hi hj => ?_⟩⟩
  have hl:=hr.lt.blks b _ hb _ (List.getElem_mem hi)
  exact ⟨(h6 i hi hj).1.keep (keeps _ _) hl.1,(h6 i hi hj).2.keep (keeps _ _) hl.2⟩
 ·rw [zY _ _ _ _ hll] at hl'
  split at hl'
  ·cases hl'
  ·exact hr.deadl l' hl'
 ·rw [zY _ _ _ _ hll] at hl'
  split at hl'
  ·rename_i e;subst e
   injection hl' with hl';subst hl'
   obtain ⟨o',h1,⟨ct,df,fi,h2,h3⟩⟩:=hr.loops l' r hl
   rw [ho] at h1;injection h1 with h1;subst h1
   rw [hR] at h2;injection h2 with h2;injection h2 with h2;subst h2
   exact ⟨o,ho,⟨ct,df,fi,hnew,h3.keep (keeps _ _) (hr.lt.loops l' r hl)⟩⟩
  ·rename_i hne'
   obtain ⟨o',h1,⟨ct,df,fi,h2,h3⟩⟩:=hr.loops l' r' hl'
   have:o'≠o:=fun e=>hne' (hr.lapart l' l o' h1 (e ▸ ho))
   exact ⟨o',h1,⟨ct,df,fi,(hold _ this).trans h2,h3.keep (keeps _ _) (hr.lt.loops l' r' hl')⟩⟩
 ·rw [wE];exact hr.lt.blks b x hb
 ·rw [wE]
  rw [zY _ _ _ _ hll] at hl'
  split at hl'
  ·injection hl' with hl';subst hl'
   exact hr.lt.loops l r hl x hx
  ·exact hr.lt.loops l' r' hl' x hx
theorem ub4 {E:Env} {w:World} {h:Heap} {l:Nat} (n m:Nat) (hr:HR E w h) (hll:l < h.loops.length) :
  HR (E.dropLoop l) w (h.setLoop l none)∧Ext n m E w (E.dropLoop l) w:=by
 have hlam:∀ l' o,(E.dropLoop l).lam l'=some o→l'≠l∧E.lam l'=some o:=fun l' o h'=>by
  have h'':(if l'=l then none else E.lam l')=some o:=h'
  split at h''
  ·cases h''
  ·rename_i hne;exact ⟨hne,h''⟩
 have keeps:∀ n m,Keeps n m E w (E.dropLoop l) w:=fun n m =>
  ⟨fun B o v a b=>⟨a,b⟩,fun b hb Ls' hLs'=>⟨Ls',hLs',fun L hL=>⟨L,hL,rfl,rfl,rfl,rfl,Nat.le_refl _⟩⟩,fun l' _ o ho=>(hlam l' o ho).2⟩
 have hfoot:∀ B,zf (E.dropLoop l) B→zf E B:=by
  rintro B (⟨b,Ls,L,h1,h2,rfl⟩ | ⟨l',h1⟩)
  ·exact .inl ⟨b,Ls,L,h1,h2,rfl⟩
  ·exact .inr ⟨l',(hlam _ _ h1).2⟩
 refine uy (B:=Ext ..) ⟨keeps n m,Nat.le_refl _,rfl,rfl,rfl,fun _ _ _=>rfl,fun _ _ h=>.inl h,fun B _ h=>hfoot B h⟩ fun hx => ?_
 ·refine ⟨hr.dead,fun b rs g fz hb => ?_,fun b es hb => ?_,hr.apart,fun l' hl' => ?_,fun l' r' hl' => ?_,fun l1 l2 o h1 h2=>hr.lapart l1 l2 o (hlam _ _ h1).2 (hlam _ _ h2).2,⟨fun b x hb => ?_,fun l' r' hl' x hx => ?_⟩,hr.inside,hr.globs.ext hx⟩
  ·obtain ⟨Ls,h1,h2⟩:=hr.rows b rs g fz hb
   refine ⟨Ls,h1,h2.one,h2.now,fun L hL => ?_,h2.apart⟩
   have hl:=h2.all L hL
   obtain ⟨arr,el,a1,a2,a3⟩:=hl.lies
   refine ⟨⟨arr,el,a1,a2,fun i hi hi' j hj => ?_⟩,hl.len,hl.fits,hl.sz,hl.own,hl.free⟩
   obtain ⟨v,b1,b2,b3⟩:=a3 i hi hi' j hj
   exact ⟨v,b1,b2.keep (keeps _ _) (hr.lt.blks b _ hb _ (List.getElem_mem hi) _ (List.getElem_mem hj)),b3⟩
  ·obtain ⟨Ls,h1,⟨L,ces,clock,rfl,h3,h4,h5,h6⟩⟩:=hr.maps b es hb
   refine ⟨[L],h1,⟨L,ces,clock,rfl,h3,h4,h5,fun i hi hj => ?_⟩⟩
   have hl:=hr.lt.blks b _ hb _ (List.getElem_mem hi)
   exact ⟨(h6 i hi hj).1.keep (keeps _ _) hl.1,(h6 i hi hj).2.keep (keeps _ _) hl.2⟩
  ·rw [zY _ _ _ _ hll] at hl'
   show (if l'=l then none else E.lam l')=none
   split
   ·rfl
   ·rename_i hne
    rw [if_neg hne] at hl'
    exact hr.deadl l' hl'
  ·rw [zY _ _ _ _ hll] at hl'
   split at hl'
   ·cases hl'
   ·rename_i hne
    obtain ⟨o',h1,⟨ct,df,fi,h2,h3⟩⟩:=hr.loops l' r' hl'
    exact ⟨o',by show (if l'=l then none else E.lam l')=_;rw [if_neg hne];exact h1,⟨ct,df,fi,h2,h3.keep (keeps _ _) (hr.lt.loops l' r' hl')⟩⟩
  ·rw [wE];exact hr.lt.blks b x hb
  ·rw [wE]
   rw [zY _ _ _ _ hll] at hl'
   split at hl'
   ·cases hl'
   ·exact hr.lt.loops l' r' hl' x hx
section rules
variable {P:Program} {n m:Nat} {rnd:Option Nat} {st:St} {Q:gb→St→Prop}
def qz:Code→Bool
 | .exit _ | .goto _ | .ret=>true
 | _=>false
theorem gay {l:Nat} {r:jc} (hl:st.h.loop? l=some r) (hs:r.state=.ready)
  (h:Q .normal { st with h:=st.h.setLoop l (some { r with state:=.busy,pending:=r.pending }) }):TodoSem P n m (some l) [.beginRound] st Q :=
 ⟨fun b E w tmps ds base h1 h2 hb h3 h4 h5 k cs=>by
  obtain ⟨o,ho,⟨ct,df,fi,hR,hct⟩⟩:=h1.heap.loops l r hl
  obtain ⟨_,o',hb1,hb2⟩:=h3
  obtain rfl:o=o':=hb2 o ho
  obtain ⟨hr',x⟩:=jar n m h1.heap hl ho hR .busy r.pending
  obtain ⟨_,x2⟩:=jar st.h.blks.length st.h.loops.length h1.heap hl ho hR .busy r.pending
  refine ⟨.normal,{ st with h:=st.h.setLoop l (some { r with state:=.busy,pending:=r.pending }) },E,_,tmps,ds,h,⟨hr',h1.tmps.keep x2.keeps h1.lt,?_⟩,h2.ext x,x,h4,?_,.one ?_⟩
  ·intro y hy;rw [wE];exact h1.lt y hy
  ·rw [wE];exact h5
  ·refine stepR_beginRound (b:=b) (a:=⟨tmps,ds⟩) hb1 ?_
   simp [Instr.beginRound,Instr.getLoop,getObj,setObj,bind,Sem.bind,Sem.run,hR,pure,hs]⟩
def yo (ts:List AV) (ps:List Tmp) (args:List AV):List AV:=(ps.zip args).foldl (fun ts p=>ts.set p.1 p.2) ts
theorem va4 {E:Env} {w:World}:∀ (ps:List Tmp) (args:List AV) (vs:List Value) (ts:List AV) (ct:Array Value),TR E w ts ct→args.length=vs.length →
  (∀ (i:Nat) (hi:i < args.length) (hj:i < vs.length),VR E w args[i] vs[i]) →
  TR E w (yo ts ps args) ((ps.zip vs).foldl (fun tmps (p:Tmp × Value)=>tmps.setIfInBounds p.1 p.2) ct)
 | [],_,_,_,_,h,_,_=>by simpa [yo] using h
 | p :: ps,[],vs,ts,ct,h,e,hv=>by
  cases vs with
  | nil=>simpa [yo] using h
  | cons v vs=>simp at e
 | p :: ps,a :: args,[],ts,ct,h,e,hv=>by simp at e
 | p :: ps,a :: args,v :: vs,ts,ct,h,e,hv=>by
  have:=va4 ps args vs (ts.set p a) (ct.setIfInBounds p v) (h.put (some p) (hv 0 (by simp) (by simp))) (by simpa using e) (fun i hi hj=>by
   have:=hv (i + 1) (by simp;omega) (by simp;omega)
   simpa using this)
  simpa [yo] using this
theorem xaC {n m:Nat}:∀ (ps:List Tmp) (args ts:List AV),(∀ x∈ts,Lt n m x)→(∀ x∈args,Lt n m x)→∀ x∈yo ts ps args,Lt n m x
 | [],_,_,h,_=>by simpa [yo] using h
 | p :: ps,[],ts,h,_=>by simpa [yo] using h
 | p :: ps,a :: args,ts,h,ha=>by
  have:=xaC ps args (ts.set p a) (xaK h (some p) (ha a (by simp))) (fun x hx=>ha x (by simp [hx]))
  simpa [yo] using this
def qB (l:Nat) (K:AV→Heap→Prop) (e:gb) (s:St):Prop :=
 match s.h.loop? l with
 | none=>False
 | some r=>match e with
  | .normal=>K (.bool true) (s.h.setLoop l (some { r with state:=.ready,pending:=none }))
  | .jump j=>qz j=true∧K (.bool false) (s.h.setLoop l (some { r with state:=.done,pending:=some j }))
theorem jax {l:Nat} {args:List AV} {h:Heap} {r:jc} {K:AV→Heap→Prop} (hl:h.loop? l=some r) (hn:args.length=r.params.size)
  (g:TodoSem P h.blks.length h.loops.length (some l) [.code r.assign,.beginRound,.code r.body] { tmps:=yo r.tmps r.params.toList args,h:=h } (qB l K)) :
  GivesSem P h (fun w E t=>∃ (o:Nat) (vs:Array Value),E.lam l=some o∧TR E w args vs∧(∀ x∈args,Lt h.blks.length h.loops.length x)∧t=Instr.yield o vs) K :=
 ⟨fun E w t hr ⟨o,vs,ho,ha,hla,ht⟩ c cs hat=>by
  obtain ⟨o',ho',⟨ct,df,fi,hR,hct⟩⟩:=hr.loops l r hl
  rw [ho] at ho';injection ho' with ho';subst ho'
  have hsz:vs.size=r.params.size:=by rw [← ha.size];exact hn
  let ts:=(r.params.zip vs).foldl (fun tmps (p:Tmp × Value)=>tmps.setIfInBounds p.1 p.2) ct
  have hrun:t.run P w=.ok (.round o fi ts r.assign r.body) w:=by
   subst ht
   simp [Instr.yield,Instr.getLoop,getObj,bind,Sem.bind,Sem.run,hR,pure,hsz,ts]
  have h0:=zcg hat hrun
  let b:Frame:={ fn:=fi,tmps := #[],todo:=[],defers:=[],mode:=.run,kind:=.normal,roundOf:=some o }
  have hfr:Frame.round o fi ts r.assign r.body .normal=fat b ts [] [.code r.assign,.beginRound,.code r.body]:=rfl
  have hts:TR E w (yo r.tmps r.params.toList args) ts:=by
   have:=va4 r.params.toList args vs.toList r.tmps ct hct (by simpa using ha.size) (fun i hi hj=>by simpa using ha.val i hi (by simpa using hj))
   have e:ts=(r.params.toList.zip vs.toList).foldl (fun tmps (p:Tmp × Value)=>tmps.setIfInBounds p.1 p.2) ct:=by
    show (r.params.zip vs).foldl _ ct=_
    rw [← Array.foldl_toList,Array.toList_zip]
   rw [e];exact this
  have hst:StR E w { tmps:=yo r.tmps r.params.toList args,h:=h } ts :=
   ⟨hr,hts,xaC _ _ _ (hr.lt.loops l r hl) hla⟩
  obtain ⟨e,s,E1,w1,t1,d1,q,s1,s2,s3,s4,s5,s6⟩:=g.run b E w ts [] w.heap.size hst ⟨[],rfl,by simp,by simp⟩ (Nat.le_refl _) ⟨xaq hl,o,rfl,fun o' h'=>by rw [ho] at h';injection h' with h';exact h'.symm⟩ (Nat.le_refl _) (Nat.le_refl _) [] (c :: cs)
  unfold qB at q
  split at q
  ·exact q.elim
  ·rename_i r1 hl1
   obtain ⟨o1,ho1,⟨ct1,df1,fi1,hR1,hct1⟩⟩:=s1.heap.loops l r1 hl1
   have:o1=o:=by
    have:=s3.keeps.loops l (xaq hl) o1 ho1
    rw [ho] at this;injection this with this;exact this.symm
   subst this
   have fin:∀ (j:Option Code) (st':LoopState) (v:Bool),(if j.isNone then LoopState.ready else LoopState.done)=st'→j.isNone=v →
     K (.bool v) (s.h.setLoop l (some { r1 with state:=st',pending:=j })) →
     (∀ w',(Instr.endRound o1 j).run P w1=.ok (.bool v) w'→Steps P (lone (fat b ts [] [.code r.assign,.beginRound,.code r.body]) (c :: cs) w) (lone (c.finish (.bool v)) cs w')) →
     ∃ r h' E' w' v,K r h'∧VR E' w' r v∧HR E' w' h'∧Lt h'.blks.length h'.loops.length r∧h.blks.length≤h'.blks.length∧h.loops.length≤h'.loops.length ∧
      Ext h.blks.length h.loops.length E w E' w'∧Steps P (lone c cs w) (lone (c.finish v) cs w'):=by
    intro j st' v e1 e2 hk hsteps
    obtain ⟨hr',x⟩:=jar h.blks.length h.loops.length s1.heap hl1 ho1 hR1 st' j
    refine ⟨.bool v,_,E1,_,.bool v,hk,.bool v,hr',.bool v,s4,by rw [wE];exact s5,s3.trans (Nat.le_refl _) (Nat.le_refl _) x,.head h0 (hsteps _ ?_)⟩
    simp [Instr.endRound,Instr.getLoop,getObj,setObj,bind,Sem.bind,Sem.run,hR1,pure,e2,← e1]
   cases e with
   | normal =>
    refine fin none .ready true rfl rfl q fun w' hw' => ?_
    have s6':Steps P (lone (fat b ts [] [.code r.assign,.beginRound,.code r.body]) (c :: cs) w) (lone (fat b t1 d1 []) (c :: cs) w1):=s6
    exact s6'.trans (.one (stepR_round_end (b:=b) (a:=⟨t1,d1⟩) rfl rfl hw'))
   | jump j =>
    obtain ⟨hj,hk⟩:=q
    refine fin (some j) .done false rfl rfl hk fun w' hw' => ?_
    obtain ⟨todo,hs,hres⟩:=s6
    refine Steps.trans hs (.one ?_)
    cases j with
    | exit id=>exact stepR_round_exit (b:=b) (a:=⟨t1,d1⟩) rfl rfl (by simpa [Res,exitTo] using hres) hw'
    | goto id=>exact stepR_round_goto (b:=b) (a:=⟨t1,d1⟩) rfl rfl (by simpa [Res,gotoIn] using hres) hw'
    | ret=>exact stepR_round_ret (b:=b) (a:=⟨t1,d1⟩) rfl rfl hw'
    | _=>simp [qz] at hj⟩
def yM (ts:List AV) (l:Nat) (Q:gb→St→Prop) (_:AV) (h:Heap):Prop :=
 match h.loop? l with
 | none=>False
 | some r=>r.state≠.busy∧match r.pending with
  | none=>Q .normal { tmps:=ts,h:=h.setLoop l none }
  | some j=>qz j=true∧Q (.jump j) { tmps:=ts,h:=h.setLoop l none }
theorem jaA {f:Operand} {ps:Array Tmp} {as body:Code} {g:FuncId} {first cap:List AV} (hf:st.ev f=.fn (.func g) first cap)
  (hrd:∀ l0,rnd=some l0→(st.h.loop? l0).isSome=true)
  (hc:CallSem P g (first ++ [.yld st.h.loops.length] ++ cap) (st.h.pushLoop { state:=.ready,pending:=none,tmps:=st.tmps,params:=ps,assign:=as,body:=body }) (yM st.tmps st.h.loops.length Q)) :
  TodoSem P n m rnd [.code (.rangeFunc f ps as body)] st Q :=
 ⟨fun b E w tmps ds base h1 h2 hb h3 h4 h5 k cs=>by
  have henter:∃ w1 o mark df,(Instr.enterLoop b.fn tmps ps as body b.roundOf).run P w=.ok (o,mark) w1∧Grows w w1∧w.heap.size≤o ∧
    w1.heap[o]? = some (.loop { state:=.ready,pending:=none,fn:=b.fn,tmps:=tmps,params:=ps,assign:=as,body:=body,defers:=df }) ∧
    (mark=[]∨∃ r,mark=[{ target:=.collected r,args := #[] }]∧w.heap.size≤r∧r≠o∧w1.heap[r]? = some (.deferred (some []))):=by
   cases rnd with
   | none =>
    have hro:b.roundOf=none:=h3
    refine ⟨{ w with heap:=(w.heap.push (.deferred (some []))).push (.loop { state:=.ready,pending:=none,fn:=b.fn,tmps:=tmps,params:=ps,assign:=as,body:=body,defers:=w.heap.size }) },
     w.heap.size + 1,[{ target:=.collected w.heap.size,args := #[] }],w.heap.size,?_,⟨?_,rfl,rfl,rfl,fun B hB => ?_⟩,by omega,?_,.inr ⟨w.heap.size,rfl,Nat.le_refl _,by omega,?_⟩⟩
    ·simp [Instr.enterLoop,hro,newObj,bind,Sem.bind,Sem.run,pure]
    ·show _≤(Array.push _ _).size
     simp;omega
    ·show (Array.push _ _)[B]? = _
     rw [Array.getElem?_push_lt (by simp;omega),Array.getElem_push_lt hB,Array.getElem?_eq_getElem hB]
    ·show (Array.push _ _)[_]? = _
     have e:w.heap.size + 1=(w.heap.push (.deferred (some []))).size:=by simp
     rw [e,Array.getElem?_push_size]
    ·show (Array.push _ _)[_]? = _
     rw [Array.getElem?_push_lt (by simp),Array.getElem_push_eq]
   | some l0 =>
    obtain ⟨_,o,hro,ho⟩:=h3
    obtain ⟨r0,hr0⟩:=Option.isSome_iff_exists.1 (hrd l0 rfl)
    obtain ⟨o1,ho1,⟨ct,df,fi,hR,_⟩⟩:=h1.heap.loops l0 r0 hr0
    obtain rfl:=ho o1 ho1
    refine ⟨{ w with heap:=w.heap.push (.loop { state:=.ready,pending:=none,fn:=b.fn,tmps:=tmps,params:=ps,assign:=as,body:=body,defers:=df }) },w.heap.size,[],df,?_,⟨?_,rfl,rfl,rfl,fun B hB => ?_⟩,Nat.le_refl _,?_,.inl rfl⟩
    ·simp [Instr.enterLoop,hro,Instr.getLoop,getObj,newObj,bind,Sem.bind,Sem.run,hR,pure]
    ·show _≤(Array.push _ _).size
     simp
    ·show (Array.push _ _)[B]? = _
     rw [Array.getElem?_push_lt hB,Array.getElem?_eq_getElem hB]
    ·show (Array.push _ _)[_]? = _
     simp [Array.getElem?_push]
  obtain ⟨w1,o,mark,df,hen,hg,hob,hlo,hmark⟩:=henter
  obtain ⟨hr1,x1⟩:=zb4 (r:={ state:=.ready,pending:=none,tmps:=st.tmps,params:=ps,assign:=as,body:=body }) (ct:=tmps) (df:=df) (fi:=b.fn) h1.heap hg hob hlo h1.tmps h1.lt
  have hlen:(st.h.pushLoop { state:=.ready,pending:=none,tmps:=st.tmps,params:=ps,assign:=as,body:=body }).loops.length=st.h.loops.length + 1:=by simp [Heap.pushLoop]
  have hlam:(E.withLoop st.h.loops.length o).lam st.h.loops.length=some o:=by simp [Env.withLoop]
  have hvf:=xaR h1.tmps b (mark ++ ds) (.inRangeFunc o :: k) f
  rw [hf] at hvf
  obtain ⟨va,vc,e1,e2,hve,v1,v2⟩:∃ (va vc:Array Value) (_:first.length=va.size) (_:cap.length=vc.size),(fat b tmps (mark ++ ds) (.inRangeFunc o :: k)).eval f=.func (.func g) va vc ∧
    TR E w first va∧TR E w cap vc:=by
   revert hvf
   generalize (fat b tmps (mark ++ ds) (.inRangeFunc o :: k)).eval f=v
   intro hvf
   cases hvf with
   | fn _ _ _ va vc e1 e2 v1 v2=>exact ⟨va,vc,e1,e2,rfl,⟨e1,v1⟩,⟨e2,v2⟩⟩
  have hlf:=yag h1.lt f
  rw [hf] at hlf
  have hargs:TR (E.withLoop st.h.loops.length o) w1 (first ++ [.yld st.h.loops.length] ++ cap) (va ++ #[.func (.yield o) #[] #[]] ++ vc):=by
   cases hlf with
   | fn _ _ _ l1 l2 =>
    have k1:TR (E.withLoop st.h.loops.length o) w1 first va:=v1.keep x1.keeps fun x hx=>by obtain ⟨i,hi,rfl⟩:=List.getElem_of_mem hx;exact l1 i hi
    have k2:TR (E.withLoop st.h.loops.length o) w1 cap vc:=v2.keep x1.keeps fun x hx=>by obtain ⟨i,hi,rfl⟩:=List.getElem_of_mem hx;exact l2 i hi
    have k3:TR (E.withLoop st.h.loops.length o) w1 [.yld st.h.loops.length] #[.func (.yield o) #[] #[]]:=by
     refine ⟨rfl,fun i hi hj => ?_⟩
     obtain rfl:i=0:=by simpa using hi
     exact .yld _ _ _ _ fun o' ho'=>by
      rw [hlam] at ho';injection ho' with ho';subst ho';exact ⟨rfl,rfl,rfl⟩
    have app:∀ {xs ys:List AV} {us vs:Array Value},TR (E.withLoop st.h.loops.length o) w1 xs us→TR (E.withLoop st.h.loops.length o) w1 ys vs→TR (E.withLoop st.h.loops.length o) w1 (xs ++ ys) (us ++ vs):=by
     intro xs ys us vs a b
     refine ⟨by simp [a.size,b.size],fun i hi hj => ?_⟩
     rcases Nat.lt_or_ge i xs.length with hl | hl
     ·rw [List.getElem_append_left hl,Array.getElem_append_left (a.size ▸ hl)]
      exact a.val i hl _
     ·rw [List.getElem_append_right hl,Array.getElem_append_right (a.size ▸ hl)]
      have e:i - xs.length=i - us.size:=by rw [a.size]
      simp only [e]
      exact b.val _ _ _
    exact app (app k1 k3) k2
  have hlt:∀ x∈first ++ [.yld st.h.loops.length] ++ cap,Lt (st.h.pushLoop { state:=.ready,pending:=none,tmps:=st.tmps,params:=ps,assign:=as,body:=body }).blks.length (st.h.pushLoop { state:=.ready,pending:=none,tmps:=st.tmps,params:=ps,assign:=as,body:=body }).loops.length x:=by
   intro x hx
   rw [hlen]
   simp only [List.mem_append,List.mem_singleton] at hx
   cases hlf with
   | fn _ _ _ l1 l2 =>
    rcases hx with (hx | rfl) | hx
    ·obtain ⟨i,hi,rfl⟩:=List.getElem_of_mem hx;exact (l1 i hi).mono (Nat.le_refl _) (by omega)
    ·exact .yld _ (by omega)
    ·obtain ⟨i,hi,rfl⟩:=List.getElem_of_mem hx;exact (l2 i hi).mono (Nat.le_refl _) (by omega)
  obtain ⟨r,h',E',w',v,fr,hk,s1,s2,s3,s4,s5,s6,s7,s8,s9⟩:=hc.run (E.withLoop st.h.loops.length o) w1 _ hr1 hargs hlt (fat b tmps (mark ++ ds) (.inRangeFunc o :: k) :: cs)
  have hstep0:step P (lone (fat b tmps ds (.code (.rangeFunc f ps as body) :: k)) cs w)=.next (lone (Frame.enter P g (va ++ #[.func (.yield o) #[] #[]] ++ vc) .normal) (fat b tmps (mark ++ ds) (.inRangeFunc o :: k) :: cs) w1):=by
   have hve':(Act.eval ⟨tmps,ds⟩) f=.func (.func g) va vc:=by
    have e:(Act.eval ⟨tmps,ds⟩) f=(fat b tmps (mark ++ ds) (.inRangeFunc o :: k)).eval f:=by cases f <;> rfl
    rw [e];exact hve
   obtain ⟨fn,f1,f2,f3⟩:=hc.ok.ok
   have h2':¬ fn.body=none:=by intro e;rw [e] at f2;cases f2
   have h3':¬ fn.name = "runtime.NumGoroutine" := by simpa using f3
   refine stepR_rangeFunc (b:=b) (a:=⟨tmps,ds⟩) (w₁':=w1) (d:={ target:=.fn (.func g) vc,args:=va ++ #[.func (.yield o) #[] #[]] }) hen ?_ ?_
   ·simp only [resolve,hve',Deferred.ofValue]
    simp [Act.eval]
   ·simp [invoke,callFunc,f1,h2',h3']
  have hb':base≤w.heap.size:=hb
  unfold yM at hk
  split at hk
  ·exact hk.elim
  ·rename_i r' hl'
   obtain ⟨hbusy,hk⟩:=hk
   obtain ⟨o',ho',⟨ct',df',fi',hR',hct'⟩⟩:=s2.loops st.h.loops.length r' hl'
   have hoo:o'=o:=by
    have:=s6.keeps.loops st.h.loops.length (by rw [hlen];omega) o' ho'
    rw [hlam] at this;injection this with this;exact this.symm
   subst hoo
   obtain ⟨hr2,x2⟩:=jar h'.blks.length h'.loops.length s2 hl' ho' hR' .exhausted r'.pending
   have hlast:(Instr.endLoop o').run P w'=.ok r'.pending { w' with heap:=w'.heap.setIfInBounds o' (.loop { state:=.exhausted,pending:=r'.pending,fn:=fi',tmps:=ct',params:=r'.params,assign:=r'.assign,body:=r'.body,defers:=df' }) }:=by
    simp [Instr.endLoop,Instr.getLoop,getObj,setObj,bind,Sem.bind,Sem.run,hR',pure,hbusy]
   have hlen2:st.h.loops.length < (h'.setLoop st.h.loops.length (some { r' with state:=.exhausted,pending:=r'.pending })).loops.length:=by
    rw [wE];exact xaq hl'
   obtain ⟨hr3,x3⟩:=ub4 h'.blks.length h'.loops.length hr2 hlen2
   have hset:(h'.setLoop st.h.loops.length (some { r' with state:=.exhausted,pending:=r'.pending })).setLoop st.h.loops.length none=h'.setLoop st.h.loops.length none:=by
    simp [Heap.setLoop]
   rw [hset] at hr3
   have l1:st.h.blks.length≤h'.blks.length:=s4
   have l2:st.h.loops.length≤h'.loops.length:=by rw [hlen] at s5;omega
   have xa:Ext st.h.blks.length st.h.loops.length E w E' w':=x1.trans (Nat.le_refl _) (by rw [hlen];omega) s6
   have xall:=(xa.trans l1 l2 x2).trans l1 l2 x3
   have htmps:=h1.tmps.keep xall.keeps h1.lt
   have hst:StR (E'.dropLoop st.h.loops.length) { w' with heap:=w'.heap.setIfInBounds o' (.loop { state:=.exhausted,pending:=r'.pending,fn:=fi',tmps:=ct',params:=r'.params,assign:=r'.assign,body:=r'.body,defers:=df' }) } { tmps:=st.tmps,h:=h'.setLoop st.h.loops.length none } tmps :=
    ⟨hr3,htmps,fun x hx=>by rw [wE];exact (h1.lt x hx).mono l1 l2⟩
   have hdef:DefOK base (E'.dropLoop st.h.loops.length) { w' with heap:=w'.heap.setIfInBounds o' (.loop { state:=.exhausted,pending:=r'.pending,fn:=fi',tmps:=ct',params:=r'.params,assign:=r'.assign,body:=r'.body,defers:=df' }) } (mark ++ ds):=by
    have hd1:=h2.ext xall
    rcases hmark with rfl | ⟨r0,rfl,m1,m2,m3⟩
    ·exact hd1
    ·obtain ⟨rs,q1,q2,q3⟩:=h2.marks
     obtain ⟨rs',q1',q2',q3'⟩:=hd1.marks
     subst q1
     refine ⟨r0 :: rs,rfl,?_,fun r hr => ?_⟩
     ·rw [List.nodup_cons]
      refine ⟨fun hmem => ?_,q2⟩
      obtain ⟨_,_,q⟩:=q3 r0 hmem
      rw [Array.getElem?_eq_none m1] at q;cases q
     ·have hh:∀ r,r∈rs→base≤r∧¬ zf (E'.dropLoop st.h.loops.length) r∧_:=fun r hr=>by
       have hq:=q3' r (by
        have e:rs.map (fun r=>({ target:=.collected r,args := #[] }:Deferred))=rs'.map (fun r=>{ target:=.collected r,args := #[] }):=q1'
        have:({ target:=.collected r,args := #[] }:Deferred)∈rs'.map (fun r=>{ target:=.collected r,args := #[] }):=e ▸ List.mem_map_of_mem hr
        obtain ⟨r2,h1',h2'⟩:=List.mem_map.1 this
        injection h2' with h3' _;injection h3' with h3';subst h3';exact h1')
       exact hq
      rcases List.mem_cons.1 hr with rfl | hr
      ·have hnf:¬ zf (E.withLoop st.h.loops.length o') r:=by
        rintro (⟨b',Ls,L,h1',h2',e⟩ | ⟨l,h1'⟩)
        ·have:=xi h1.heap (B:=L.blk) (.inl ⟨b',Ls,L,h1',h2',rfl⟩)
         omega
        ·by_cases hl0:l=st.h.loops.length
         ·subst hl0;rw [hlam] at h1';injection h1' with h1';exact m2 h1'.symm
         ·have h1'':E.lam l=some r:=by
           have:(if l=st.h.loops.length then some o' else E.lam l)=some r:=h1'
           rwa [if_neg hl0] at this
          have:=xi h1.heap (B:=r) (.inr ⟨l,h1''⟩)
          omega
       have hlt1:r < w1.heap.size:=by
        rcases Nat.lt_or_ge r w1.heap.size with h | h
        ·exact h
        ·rw [Array.getElem?_eq_none h] at m3;cases m3
       have xb:=(s6.trans s4 s5 x2).trans s4 s5 x3
       exact ⟨Nat.le_trans hb m1,fun hf=>hnf (xb.foot' r hlt1 hf),(xb.same r hlt1 hnf).trans m3⟩
      ·exact hh r hr
   have hm:m≤(h'.setLoop st.h.loops.length none).loops.length:=by rw [wE];exact Nat.le_trans h5 l2
   have s7':Steps P (lone (fat b tmps ds (.code (.rangeFunc f ps as body) :: k)) cs w) (lone (fat b tmps (mark ++ ds) (.endRangeFunc o' :: k)) cs w'):=by
    refine .head hstep0 (s7.trans (.one ?_))
    have:=step_leave_returned (c:=fat b tmps (mark ++ ds) (.inRangeFunc o' :: k)) (cs:=cs) s9
    exact this
   have s8':=stepR_endRangeFunc (b:=b) (a:=⟨tmps,mark ++ ds⟩) (k:=k) (cs:=cs) hlast
   cases hp:r'.pending with
   | none =>
    have e8:(r'.pending.map Item.code).toList ++ k=k:=by rw [hp];rfl
    rw [e8] at s8'
    rw [hp] at hk
    refine ⟨.normal,_,_,_,tmps,mark ++ ds,hk,hst,hdef,xall.mono h4 h5,Nat.le_trans h4 l1,hm,s7'.trans (.one ?_)⟩
    exact s8'
   | some j =>
    have e8:(r'.pending.map Item.code).toList ++ k=.code j :: k:=by rw [hp];rfl
    rw [e8] at s8'
    rw [hp] at hk
    refine ⟨.jump j,_,_,_,tmps,mark ++ ds,hk.2,hst,hdef,xall.mono h4 h5,Nat.le_trans h4 l1,hm,k,s7'.trans (.one ?_),rfl⟩
    exact s8'⟩
end rules
end
end Go.Abs
