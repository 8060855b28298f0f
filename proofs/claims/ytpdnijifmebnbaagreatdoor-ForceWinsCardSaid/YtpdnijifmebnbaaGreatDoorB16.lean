/-
  Steps to a law of this program: AbsRen, AbsSim, AbsDraw5, AbsCut, AbsDrop, AbsIter.
  Conditions: none.
-/
import Derived.Test.YtpdnijifmebnbaaGreatDoorB15
import Derived.Test.YtpdnijifmebnbaaGreatDoorB14
set_option linter.unusedVariables false
set_option linter.unusedSimpArgs false
set_option linter.unusedSectionVars false
namespace Go.Abs
noncomputable section
variable [Gl]
inductive RenF (σ:Nat→Nat) (N:Nat):AV→AV→Prop where
 | junk (y:AV):RenF σ N .junk y
 | same (x:AV) (M:Nat) (h:Lt N M x):RenF σ N x x
 | agg (cs ds:List AV) (hl:cs.length=ds.length) (hh:∀ (i:Nat) (hi:i < cs.length) (hj:i < ds.length),RenF σ N cs[i] ds[i]):RenF σ N (.agg cs) (.agg ds)
 | tup (cs ds:List AV) (hl:cs.length=ds.length) (hh:∀ (i:Nat) (hi:i < cs.length) (hj:i < ds.length),RenF σ N cs[i] ds[i]):RenF σ N (.tup cs) (.tup ds)
 | ptr (b i j:Nat):RenF σ N (.ptr b i j) (.ptr (σ b) i j)
 | ms (b i l:Nat) (c:Option Nat):RenF σ N (.ms b i l c) (.ms (σ b) i l c)
 | mp (b:Nat):RenF σ N (.mp b) (.mp (σ b))
def Env.turn (E:Env) (σ:Nat→Nat):Env:={ F:=E.F,ρ:=fun b=>E.ρ (σ b),lam:=E.lam }
structure v8 (σ τ:Nat→Nat) (N:Nat):Prop where
 st:∀ b,σ (τ b)=b
 ts:∀ b,τ (σ b)=b
 fix:∀ b,b < N→σ b=b
omit [Gl] in
theorem u9 {σ τ:Nat→Nat} {N:Nat} (hp:v8 σ τ N) (E:Env) (w:World) (M:Nat):Keeps N M E w (E.turn σ) w :=
 ⟨fun B o v h1 h2=>⟨h1,h2⟩,fun b hb Ls' h=>⟨Ls',by rw [← h];show E.ρ b=E.ρ (σ b);rw [hp.fix b hb],fun L hL=>⟨L,hL,rfl,rfl,rfl,rfl,Nat.le_refl _⟩⟩,fun l _ o h=>h⟩
omit [Gl] in
theorem RenF.VR {σ τ:Nat→Nat} {N:Nat} (hp:v8 σ τ N) {E:Env} {w:World} {x y:AV} (h:RenF σ N x y):∀ v,Abs.VR E w y v→Abs.VR (E.turn σ) w x v:=by
 induction h with
 | junk y=>exact fun v _=>.junk v
 | same x M h=>exact fun v hv=>hv.keep (u9 hp E w M) h
 | agg cs ds hl hh ih=>intro v hv;cases hv with | agg _ vs hs hv=>exact .agg _ vs (by omega) fun i hi hj=>ih i hi (by omega) _ (hv i (by omega) hj)
 | tup cs ds hl hh ih=>intro v hv;cases hv with | tup _ vs hs hv=>exact .tup _ vs (by omega) fun i hi hj=>ih i hi (by omega) _ (hv i (by omega) hj)
 | ptr b i j=>intro v hv;cases hv with | ptr _ _ _ a hv=>exact .ptr _ _ _ a hv
 | ms b i l c=>intro v hv;cases hv with | ms _ _ _ _ a l c hv=>exact .ms _ _ _ _ a l c hv
 | mp b=>intro v hv;cases hv with | mp _ r hv=>exact .mp _ r hv
omit [Gl] in
theorem RenF.lt {σ:Nat→Nat} {N L M:Nat} (hσ:∀ b,σ b < L→b < L) {x y:AV} (h:RenF σ N x y):Lt L M y→Lt L M x:=by
 induction h with
 | junk y=>exact fun _=>.junk
 | same x M' h=>exact fun h=>h
 | agg cs ds hl hh ih=>intro hx;cases hx with | agg _ hx=>exact .agg _ fun i hi=>ih i hi (by omega) (hx i (by omega))
 | tup cs ds hl hh ih=>intro hx;cases hx with | tup _ hx=>exact .tup _ fun i hi=>ih i hi (by omega) (hx i (by omega))
 | ptr b i j=>intro hx;cases hx with | ptr _ _ _ hx=>exact .ptr _ _ _ (hσ b hx)
 | ms b i l c=>intro hx;cases hx with | ms _ _ _ _ hx=>exact .ms _ _ _ _ (hσ b hx)
 | mp b=>intro hx;cases hx with | mp _ hx=>exact .mp _ (hσ b hx)
inductive zP (σ:Nat→Nat) (N:Nat):Option Blk→Option Blk→Prop where
 | dead:zP σ N none none
 | same (x:Blk) (M:Nat) (h:x.Lt N M):zP σ N (some x) (some x)
 | rows (rs rs':List (List AV)) (g fz:Bool) (hl:rs.length=rs'.length) (hl':∀ (i:Nat) (hi:i < rs.length) (hj:i < rs'.length),rs[i].length=rs'[i].length)
   (hh:∀ (i:Nat) (hi:i < rs.length) (hj:i < rs'.length) (j:Nat) (h1:j < rs[i].length) (h2:j < rs'[i].length),RenF σ N rs[i][j] rs'[i][j]):zP σ N (some (.rows rs g fz)) (some (.rows rs' g fz))
structure vT (σ τ:Nat→Nat) (N:Nat) (s0 s:St):Prop where
 perm:v8 σ τ N
 len:s0.h.blks.length=s.h.blks.length
 low:N≤s.h.blks.length
 into:∀ b,σ b < s.h.blks.length→b < s.h.blks.length
 blks:∀ b,zP σ N (s0.h.blk? b) (s.h.blk? (σ b))
 loops:s0.h.loops=s.h.loops
 ltl:∀ l r,s.h.loop? l=some r→∃ M,∀ x∈r.tmps,Lt N M x
 tlen:s0.tmps.length=s.tmps.length
 tmps:∀ (i:Nat) (hi:i < s0.tmps.length) (hj:i < s.tmps.length),RenF σ N s0.tmps[i] s.tmps[i]
omit [Gl] in
theorem wa0 {σ τ:Nat→Nat} {N:Nat} (hp:v8 σ τ N) {E:Env} {B:Nat}:zf (E.turn σ) B↔zf E B:=by
 constructor
 ·rintro (⟨b,Ls,L,h1,h2,h3⟩ | ⟨l,h⟩)
  ·exact .inl ⟨σ b,Ls,L,h1,h2,h3⟩
  ·exact .inr ⟨l,h⟩
 ·rintro (⟨b,Ls,L,h1,h2,h3⟩ | ⟨l,h⟩)
  ·exact .inl ⟨τ b,Ls,L,by show E.ρ (σ (τ b))=_;rw [hp.st];exact h1,h2,h3⟩
  ·exact .inr ⟨l,h⟩
theorem RowsAt.turn {σ τ:Nat→Nat} {N:Nat} (hp:v8 σ τ N) {E:Env} {w:World} {Ls:List Loc} {rs rs':List (List AV)} {g fz:Bool}
  (hl:rs.length=rs'.length) (hl':∀ (i:Nat) (hi:i < rs.length) (hj:i < rs'.length),rs[i].length=rs'[i].length)
  (hh:∀ (i:Nat) (hi:i < rs.length) (hj:i < rs'.length) (j:Nat) (h1:j < rs[i].length) (h2:j < rs'[i].length),RenF σ N rs[i][j] rs'[i][j])
  (h:RowsAt E w Ls rs' g fz):RowsAt (E.turn σ) w Ls rs g fz:=by
 refine ⟨h.one,?_,fun L hL => ?_,h.apart⟩
 ·obtain ⟨L,h1,h2⟩:=h.now;exact ⟨L,h1,by omega⟩
 ·have la:=h.all L hL
  obtain ⟨arr,el,a1,a2,a3⟩:=la.lies
  refine ⟨⟨arr,el,a1,a2,fun i hi hi' j hj => ?_⟩,by have:=la.len;omega,la.fits,fun i hi=>by rw [hl' i hi (by omega)];exact la.sz i (by omega),la.own,la.free⟩
  obtain ⟨v,b1,b2,b3⟩:=a3 i (by omega) hi' j (by rw [← hl' i hi (by omega)];exact hj)
  exact ⟨v,b1,(hh i hi (by omega) j hj _).VR hp v b2,b3⟩
theorem zbC {σ τ:Nat→Nat} {N:Nat} {s0 s:St} (hr:vT σ τ N s0 s) {E:Env} {w:World} {tmps:Array Value} (h:StR E w s tmps):StR (E.turn σ) w s0 tmps:=by
 have hp:=hr.perm
 have hh:=h.heap
 have hloop:∀ l,s0.h.loop? l=s.h.loop? l:=fun l=>by unfold Heap.loop?;rw [hr.loops]
 have hll:s0.h.loops.length=s.h.loops.length:=by rw [hr.loops]
 refine ⟨⟨fun b hb => ?_,fun b rs g fz hb => ?_,fun b es hb => ?_,fun b b' Ls Ls' L L' hne h2 h3 => ?_,fun l hl => ?_,fun l r hl => ?_,hh.lapart,⟨fun b x hb => ?_,fun l r hl x hx => ?_⟩,hh.inside,⟨fun g row hg => ?_⟩⟩,⟨by rw [hr.tlen];exact h.tmps.size,fun i hi hj => ?_⟩,fun x hx => ?_⟩
 ·have hb':=hr.blks b
  rw [hb] at hb'
  generalize hx:s.h.blk? (σ b)=y at hb'
  cases hb'
  exact hh.dead _ hx
 ·have hb':=hr.blks b
  rw [hb] at hb'
  generalize hx:s.h.blk? (σ b)=y at hb'
  cases hb' with
  | same _ M hlt =>
   obtain ⟨Ls,a1,a2⟩:=hh.rows _ _ _ _ hx
   exact ⟨Ls,a1,a2.turn hp rfl (fun _ _ _=>rfl) fun i hi hj j h1 h2=>.same _ M (hlt _ (List.getElem_mem _) _ (List.getElem_mem _))⟩
  | rows _ rs' _ _ e1 e2 e3 =>
   obtain ⟨Ls,a1,a2⟩:=hh.rows _ _ _ _ hx
   exact ⟨Ls,a1,a2.turn hp e1 e2 e3⟩
 ·have hb':=hr.blks b
  rw [hb] at hb'
  generalize hx:s.h.blk? (σ b)=y at hb'
  cases hb' with
  | same _ M hlt =>
   obtain ⟨Ls,a1,⟨L,ces,clock,c1,c2,c3,c4,c5⟩⟩:=hh.maps _ _ hx
   exact ⟨Ls,a1,⟨L,ces,clock,c1,c2,c3,c4,fun i hi hj=>⟨(c5 i hi hj).1.keep (u9 hp E w M) (hlt _ (List.getElem_mem hi)).1,(c5 i hi hj).2.keep (u9 hp E w M) (hlt _ (List.getElem_mem hi)).2⟩⟩⟩
 ·exact hh.apart (σ b) (σ b') Ls Ls' L L' (fun e=>hne (by rw [← hp.ts b,← hp.ts b',e])) h2 h3
 ·rw [hloop] at hl;exact hh.deadl l hl
 ·rw [hloop] at hl
  obtain ⟨o,q1,⟨ct,df,fi,q2,q3⟩⟩:=hh.loops l r hl
  obtain ⟨M,hM⟩:=hr.ltl l r hl
  exact ⟨o,q1,⟨ct,df,fi,q2,q3.size,fun i hi hj=>(q3.val i hi hj).keep (u9 hp E w M) (hM _ (List.getElem_mem hi))⟩⟩
 ·have hb':=hr.blks b
  rw [hb] at hb'
  generalize hx2:s.h.blk? (σ b)=y at hb'
  have hlt:=hh.lt
  rw [hr.len,hll]
  cases hb' with
  | same _ M _=>exact hlt.blks _ _ hx2
  | rows rs rs' g fz e1 e2 e3 =>
   have h1:=hlt.blks _ _ hx2
   intro r hrm x hxm
   obtain ⟨i,hi,rfl⟩:=List.getElem_of_mem hrm
   obtain ⟨j,hj,rfl⟩:=List.getElem_of_mem hxm
   exact (e3 i hi (by omega) j hj (by rw [← e2 i hi (by omega)];exact hj)).lt hr.into (h1 _ (List.getElem_mem _) _ (List.getElem_mem _))
 ·rw [hloop] at hl
  rw [hr.len,hll]
  exact hh.lt.loops l r hl x hx
 ·obtain ⟨x0,x1,x2,x3⟩:=hh.globs.ok g row hg
  exact ⟨x0,x1,fun hf=>x2 ((wa0 hp).1 hf),x3⟩
 ·exact (hr.tmps i hi (by have:=h.tmps.size;omega)).VR hp _ (h.tmps.val i (by have:=hr.tlen;omega) hj)
 ·rw [hr.len,hll]
  obtain ⟨i,hi,rfl⟩:=List.getElem_of_mem hx
  have hj:i < s.tmps.length:=by have:=hr.tlen;omega
  exact (hr.tmps i hi hj).lt hr.into (h.lt _ (List.getElem_mem hj))
theorem gbB {σ τ:Nat→Nat} {N n m:Nat} (hp:v8 σ τ N) (hn:n≤N) (E:Env) (w:World):Ext n m E w (E.turn σ) w:=by
 have k:=u9 hp E w m
 exact ⟨⟨k.cells,fun b hb=>k.refs b (by omega),k.loops⟩,Nat.le_refl _,rfl,rfl,rfl,fun _ _ _=>rfl,fun B _ hF=>.inl hF,fun B _ hf=>(wa0 hp).1 hf⟩
theorem qbC {P:Program} {n m:Nat} {rnd:Option Nat} {items:List Item} {st:St} {Q:gb→St→Prop}
  (h:TodoSem P n m rnd items st (fun e s=>∃ σ τ N s0,st.h.blks.length≤N∧vT σ τ N s0 s∧Q e s0)):TodoSem P n m rnd items st Q :=
 ⟨fun b E w tmps ds base h1 h2 hb h3 h4 h5 k cs=>by
  obtain ⟨e,s,E',w',tmps',ds',⟨σ,τ,N,s0,hN,hr,hq⟩,r1,r2,r3,r4,r5,r6⟩:=h.run b E w tmps ds base h1 h2 hb h3 h4 h5 k cs
  have x:Ext n m E' w' (E'.turn σ) w':=gbB hr.perm (by omega) E' w'
  refine ⟨e,s0,E'.turn σ,w',tmps',ds',hq,zbC hr r1,r2.ext x,Ext.trans (Nat.le_refl n) (Nat.le_refl m) r3 x,by rw [hr.len];exact r4,by rw [hr.loops];exact r5,r6⟩⟩
end
end Go.Abs

namespace Go.Abs
noncomputable section
variable [Gl]
section sim
variable {P:Program} {T:Tab} {n m:Nat} {rnd:Option Nat} {ops opx:Array Oper} {Q:gb→St→Prop}
structure Sim (ops opx:Array Oper) (π ρ:Nat→Nat) (X:List (Nat × Nat)):Prop where
 size:opx.size=ops.size
 pr:∀ i,ρ (π i)=i
 rp:∀ i,π (ρ i)=i
 lt:∀ i,i < ops.size↔π i < ops.size
 op:∀ i o,ops[i]? = some o→∃ a,opx[π i]? = some { o with after:=a,guard:=o.guard.map fun g=>(π g.1,g.2) } ∧
  (∀ e∈a,Region.binds .any e=true→(∃ e'∈o.after,Region.binds .any e'=true∧e.on=π e'.on)∨∃ p∈X,p.2=i∧e.on=π p.1∧p.1 < ops.size) ∧
  ∀ e∈o.after,Region.binds .any e=true→∃ e'∈a,Region.binds .any e'=true∧e'.on=π e.on
omit [Gl] in
theorem Sim.id (ops:Array Oper):Sim ops ops (fun i=>i) (fun i=>i) []:=by
 refine ⟨rfl,fun _=>rfl,fun _=>rfl,fun _=>Iff.rfl,fun i o ho=>⟨o.after,?_,fun e he hb=>.inl ⟨e,he,hb,rfl⟩,fun e he hb=>⟨e,he,hb,rfl⟩⟩⟩
 rw [ho]
 obtain ⟨d,op,ty,pos,af,g⟩:=o
 cases g <;> rfl
def wC (ops:Array Oper) (κ μ:Nat→Nat) (p q:Nat):Array Oper :=
 ((List.range ops.size).map fun j=>match ops[μ j]? with
   | some o=>{ o with after:=(o.after.toList.map fun e=>{ e with on:=κ e.on }).toArray ++ (if j=q then #[{ on:=p,ground:=.data }] else #[]),guard:=o.guard.map fun g=>(κ g.1,g.2) }
   | none=>⟨none,.move (.tmp 0),0, "",#[],none⟩).toArray
omit [Gl] in
theorem xbW (κ μ:Nat→Nat) (p q:Nat):(wC ops κ μ p q).size=ops.size:=by simp [wC]
omit [Gl] in
theorem wbW {κ μ:Nat→Nat} {p q:Nat} (inv:∀ i,μ (κ i)=i) (hlt:∀ i,i < ops.size→κ i < ops.size) {i:Nat} {o:Oper} (h:ops[i]? = some o) :
  (wC ops κ μ p q)[κ i]? = some { o with after:=(o.after.toList.map fun e=>{ e with on:=κ e.on }).toArray ++ (if κ i=q then #[{ on:=p,ground:=.data }] else #[]),guard:=o.guard.map fun g=>(κ g.1,g.2) }:=by
 have hi:i < ops.size:=(Array.getElem?_eq_some_iff.1 h).1
 have hp:=hlt i hi
 unfold wC
 rw [List.getElem?_toArray,List.getElem?_map,List.getElem?_range hp]
 simp only [Option.map_some,inv,h]
omit [Gl] in
theorem Sim.step {π ρ κ μ:Nat→Nat} {X:List (Nat × Nat)} (h:Sim ops opx π ρ X) (inv:∀ i,μ (κ i)=i) (inv':∀ i,κ (μ i)=i) (hlt:∀ i,i < opx.size→κ i < opx.size) (hlt2:∀ i,i < opx.size→μ i < opx.size) {p q:Nat} (hp:p < opx.size) :
  Sim ops (wC opx κ μ p q) (fun i=>κ (π i)) (fun i=>ρ (μ i)) ((ρ (μ p),ρ (μ q)) :: X):=by
 have hs:=h.size
 have hlt':∀ i,κ i < opx.size→i < opx.size:=fun i hi=>by have:=hlt2 _ hi;rwa [inv] at this
 refine ⟨by rw [xbW,hs],fun i=>by rw [inv,h.pr],fun i=>by rw [h.rp,inv'],fun i=>⟨fun hi=>by have:=hlt (π i) (by rw [hs];exact (h.lt i).1 hi);rwa [hs] at this,fun hi=>(h.lt i).2 (by have:=hlt' (π i) (by rw [hs];exact hi);rwa [hs] at this)⟩,fun i o ho => ?_⟩
 obtain ⟨a,h1,h2,h3⟩:=h.op i o ho
 have hg:=wbW (p:=p) (q:=q) inv hlt h1
 refine ⟨(a.toList.map fun e=>{ e with on:=κ e.on }).toArray ++ (if κ (π i)=q then #[{ on:=p,ground:=.data }] else #[]),?_,fun e he hb => ?_,fun e he hb => ?_⟩
 ·rw [hg]
  cases o.guard with
  | none=>rfl
  | some g=>rfl
 ·simp only [Array.mem_append,List.mem_toArray,List.mem_map,Array.mem_toList_iff] at he
  rcases he with ⟨e',he',rfl⟩ | he
  ·rcases h2 e' he' hb with ⟨e2,k1,k2,k3⟩ | ⟨x,k1,k2,k3,k4⟩
   ·exact .inl ⟨e2,k1,k2,by show κ e'.on=_;rw [k3]⟩
   ·exact .inr ⟨x,List.mem_cons_of_mem _ k1,k2,by show κ e'.on=_;rw [k3],k4⟩
  ·split at he
   ·rename_i hpq
    simp at he
    subst he
    refine .inr ⟨(ρ (μ p),ρ (μ q)),List.mem_cons_self,?_,?_,?_⟩
    ·show ρ (μ q)=i
     rw [← hpq,inv,h.pr]
    ·show p=κ (π (ρ (μ p)))
     rw [h.rp,inv']
    ·exact (h.lt _).2 (by rw [h.rp,← hs];exact hlt2 p hp)
   ·simp at he
 ·obtain ⟨e',k1,k2,k3⟩:=h3 e he hb
  refine ⟨{ e' with on:=κ e'.on },?_,k2,by show κ e'.on=_;rw [k3]⟩
  simp only [Array.mem_append,List.mem_toArray,List.mem_map,Array.mem_toList_iff]
  exact .inl ⟨e',k1,rfl⟩
omit [Gl] in
theorem waM {x:Nat × Nat} {X:List (Nat × Nat)}:∀ (fuel t:Nat) (listed:Array Bool),zu ops [x] fuel t listed→zu ops X fuel t listed→zu ops (x :: X) fuel t listed
 | 0,_,_,_,_=>True.intro
 | fuel + 1,t,listed,h1,h2=>by
  unfold zu at *
  split
  ·trivial
  ·rename_i i hi
   rw [hi] at h1 h2
   refine ⟨fun p hp => ?_,waM fuel _ _ h1.2 h2.2⟩
   rcases List.mem_cons.1 hp with rfl | hp
   ·exact h1.1 p (by simp)
   ·exact h2.1 p hp
omit [Gl] in
theorem qbh:∀ (fuel t:Nat) (listed:Array Bool),zu ops [] fuel t listed
 | 0,_,_=>True.intro
 | fuel + 1,t,listed=>by
  unfold zu
  split
  ·trivial
  ·exact ⟨fun p hp=>absurd hp List.not_mem_nil,qbh fuel _ _⟩
def yn (ρ:Nat→Nat) (listed:Array Bool):Array Bool:=((List.range listed.size).map fun j=>on listed (ρ j)).toArray
omit [Gl] in
theorem uW (ρ:Nat→Nat) (listed:Array Bool):(yn ρ listed).size=listed.size:=by simp [yn]
omit [Gl] in
theorem jW {ρ:Nat→Nat} {listed:Array Bool} {j:Nat} (hj:j < listed.size) (d:Bool):(yn ρ listed).getD j d=on listed (ρ j):=by
 have:(yn ρ listed)[j]? = some (on listed (ρ j)):=by
  unfold yn
  rw [List.getElem?_toArray,List.getElem?_map,List.getElem?_range hj];rfl
 rw [Array.getD_eq_getD_getElem?,this];rfl
omit [Gl] in
theorem gbP {π ρ:Nat→Nat} (pr:∀ i,ρ (π i)=i) (rp:∀ i,π (ρ i)=i) {listed:Array Bool} {i:Nat} (hi:i < listed.size) (hp:π i < listed.size):yn ρ (listed.setIfInBounds i true)=(yn ρ listed).setIfInBounds (π i) true:=by
 apply Array.ext
 ·simp [yn]
 ·intro j h1 h2
  have hj:j < listed.size:=by simpa [yn] using h1
  have e1:(yn ρ (listed.setIfInBounds i true))[j]=on (listed.setIfInBounds i true) (ρ j):=by simp [yn]
  rw [e1,xC hi,Array.getElem_setIfInBounds]
  ·have e2:(yn ρ listed)[j]'(by rw [uW];exact hj)=on listed (ρ j):=by simp [yn]
   by_cases h:ρ j=i
   ·rw [if_pos h,if_pos (by rw [← h,rp])]
   ·rw [if_neg h,if_neg (fun e=>h (by rw [← e,pr])),e2]
  ·rw [uW];exact hj
theorem qa3 {π ρ:Nat→Nat} {X:List (Nat × Nat)} (sm:Sim ops opx π ρ X) {A0:List AV} {V:Nat→AV} {isW:Nat→Bool} {H:Nat→Heap}
  (pl:Plan P T opx A0 V isW H) (hT:wc P T) {t:Nat} (hk:zu ops X ops.size t (Array.replicate ops.size false)) (hq:Q .normal ⟨XT opx V A0 opx.size,H opx.size⟩) :
  TodoSem P n m rnd [.inRegion ops (Region.linearise .any ops t)] ⟨A0,H 0⟩ Q:=by
 have hsz:=sm.size
 refine wbR hT X (fun listed st=>Inv pl (yn ρ listed) st) ?_ ?_ ?_ ops.size t _ _ ?_ ?_ hk
 ·intro listed st i hi hr hx
  have hs:listed.size=ops.size:=by have:=hi.size;rwa [uW,hsz] at this
  obtain ⟨hun,o,ho,hall⟩:=mem_ready.1 hr
  have hio:i < ops.size:=(Array.getElem?_eq_some_iff.1 ho).1
  have hpi:=(sm.lt i).1 hio
  obtain ⟨a,hget,ha,_⟩:=sm.op i o ho
  have hr':π i∈Region.ready .any opx (yn ρ listed):=by
   refine mem_ready.2 ⟨?_,_,hget,fun e he hb => ?_⟩
   ·rw [jW (by omega),sm.pr]
    have:i < listed.size:=by omega
    simpa [on,Array.getD,this] using hun
   ·rcases ha e he hb with ⟨e',k1,k2,k3⟩ | ⟨x,k1,k2,k3,k4⟩
    ·have h1:=hall e' k1 k2
     have h2:e'.on < listed.size:=by
      rcases Nat.lt_or_ge e'.on listed.size with h | h
      ·exact h
      ·simp [Array.getD,Nat.not_lt.2 h] at h1
     rw [k3,jW (by rw [hs];exact (sm.lt _).1 (by omega)),sm.pr]
     exact h1
    ·rw [k3,jW (by rw [hs];exact (sm.lt _).1 k4),sm.pr]
     exact hx x k1 k2
  obtain ⟨o',ho',hl',hf',hcase⟩:=gbj pl (yn ρ listed) st (π i) hi hr'
  rw [hget] at ho'
  injection ho' with ho'
  have hls:i < listed.size:=by omega
  refine ⟨o,ho,hls,by have:listed[i]=false:=by simpa [Array.getD,hls] using hun
                      rw [Array.getElem?_eq_getElem hls,this],?_⟩
  have hg:yg opx st.tmps o'=yg ops st.tmps o:=by
   rw [← ho']
   unfold yg
   cases hgo:o.guard with
   | none=>rfl
   | some gw =>
    obtain ⟨j,want⟩:=gw
    simp only [Option.map_some]
    have:(opx[π j]?).bind (·.dst)=(ops[j]?).bind (·.dst):=by
     cases hoj:ops[j]? with
     | some oj =>
      obtain ⟨a2,h2,_⟩:=sm.op j oj hoj
      rw [h2];rfl
     | none =>
      have:opx[π j]? = none:=by
       rw [Array.getElem?_eq_none_iff,hsz]
       rw [Array.getElem?_eq_none_iff] at hoj
       rcases Nat.lt_or_ge (π j) ops.size with h | h
       ·have:=(sm.lt j).2 h;omega
       ·exact h
      rw [this]
    rw [this]
  have hset:yn ρ (listed.setIfInBounds i true)=(yn ρ listed).setIfInBounds (π i) true:=gbP sm.pr sm.rp hls (by omega)
  have hd:o'.dst=o.dst:=by rw [← ho']
  rcases hcase with ⟨h1,h2⟩ | ⟨h1,h2⟩
  ·refine .inl ⟨hg ▸ h1,?_⟩
   rw [hset,← hd];exact h2
  ·refine .inr ⟨hg ▸ h1,?_⟩
   rw [hset]
   rw [← ho'] at h2
   exact vbV h2
 ·intro listed st hi hr
  have hs:listed.size=ops.size:=by have:=hi.size;rwa [uW,hsz] at this
  have hall0:∀ j,j < opx.size→on (yn ρ listed) j=true:=by
   intro j
   induction j using Nat.strongRecOn with
   | ind j ih =>
    intro hj
    rw [hsz] at hj
    cases hon:on (yn ρ listed) j with
    | true=>rfl
    | false =>
     exfalso
     have hpj:ρ j < ops.size:=(sm.lt _).2 (by rw [sm.rp];exact hj)
     have hun:on listed (ρ j)=false:=by rw [← hon];exact (jW (ρ:=ρ) (listed:=listed) (by omega) false).symm
     have hlp:ρ j < listed.size:=by omega
     have hmem:ρ j∈Region.ready .any ops listed:=by
      refine mem_ready.2 ⟨by simpa [on,Array.getD,hlp] using hun,ops[ρ j],Array.getElem?_eq_getElem hpj,fun e he hb => ?_⟩
      obtain ⟨a,hget,_,hback⟩:=sm.op (ρ j) _ (Array.getElem?_eq_getElem hpj)
      rw [sm.rp] at hget
      obtain ⟨e',k1,k2,k3⟩:=hback e he hb
      have hb':Bef opx (π e.on) j:=by
       have:=Bef.edge (ops:=opx) _ e' j hget k1 k2
       rwa [k3] at this
      have hlt2:=pl.back _ _ hb'
      have:=ih _ hlt2 (by omega)
      have e2:on (yn ρ listed) (π e.on)=on listed (ρ (π e.on)):=jW (ρ:=ρ) (listed:=listed) (by omega) false
      rw [e2,sm.pr] at this
      exact this
     rw [hr] at hmem
     cases hmem
  obtain ⟨p',hp',h1,h2⟩:=hi.heap
  have e1:st.tmps=XT opx V A0 opx.size:=by
   rw [hi.tmps]
   exact xaz _ _ hall0 _ (Nat.le_refl _)
  have e2:st.h=H opx.size:=by
   rw [h1]
   refine (pl.range opx.size hp' (Nat.le_refl _) fun w h3 h4 => ?_).symm
   cases hw:isW w with
   | false=>rfl
   | true=>have:=(h2 w h4 hw).1 (hall0 w h4);omega
  obtain ⟨tm,hs'⟩:=st
  simp only at e1 e2
  rw [e1,e2];exact hq
 ·intro listed st hi hl
  cases hr:Region.ready .any ops listed with
  | nil=>rfl
  | cons i r =>
   exfalso
   have hi':i∈Region.ready .any ops listed:=by rw [hr];exact List.mem_cons_self
   obtain ⟨hun,o,ho,_⟩:=mem_ready.1 hi'
   have hlt:i < listed.size:=ua6 hi'
   have hff:listed[i]=false:=by simpa [Array.getD,hlt] using hun
   have:=zar hlt hff
   omega
 ·have hoff:∀ j,on (yn ρ (Array.replicate ops.size false)) j=false:=fun j=>by
   by_cases hj:j < ops.size
   ·have e:=jW (ρ:=ρ) (listed:=Array.replicate ops.size false) (j:=j) (by simpa using hj) false
    show (yn ρ (Array.replicate ops.size false)).getD j false=false
    rw [e]
    simp [on,Array.getD]
   ·simp [on,Array.getD,uW,hj]
  refine ⟨by simp [uW,hsz],fun i hi => ?_,?_,0,Nat.zero_le _,rfl,fun w hw _ => ?_⟩
  ·rw [hoff] at hi;cases hi
  ·show A0=_
   rw [uak _ 0 (fun j _=>hoff j) opx.size (Nat.zero_le _)]
   rfl
  ·rw [hoff];simp
 ·simp [left,Array.toList_replicate]
def yx (P:Program) (n m:Nat) (rnd:Option Nat) (ops:Array Oper) (X:List (Nat × Nat)) (st:St) (Q:gb→St→Prop):Prop :=
 ∀ t,zu ops X ops.size t (Array.replicate ops.size false)→TodoSem P n m rnd [.inRegion ops (Region.linearise .any ops t)] st Q
theorem ybb {X:List (Nat × Nat)} {a b:Nat} (hab:a≠b) {st:St} (h1:yx P n m rnd ops ((a,b) :: X) st Q) (h2:yx P n m rnd ops ((b,a) :: X) st Q):yx P n m rnd ops X st Q:=fun t hk=>by
 rcases jbh (ops:=ops) hab ops.size t (Array.replicate ops.size false) with h | h
 ·exact h1 t (waM _ _ _ h hk)
 ·exact h2 t (waM _ _ _ h hk)
theorem zao (hm:P.follows .mixedOrders=true) {id:Nat} {st:St} (h:yx P n m rnd ops [] st Q):TodoSem P n m rnd [.code (.region id ops true)] st Q :=
 qa1 hm fun t=>h t (qbh _ _ _)
theorem xbb {X:List (Nat × Nat)} {st:St} (h:yx P n m rnd ops X st (fun e s=>∃ σ τ N s0,st.h.blks.length≤N∧vT σ τ N s0 s∧Q e s0)):yx P n m rnd ops X st Q :=
 fun t hk=>qbC (h t hk)
end sim
end
end Go.Abs

namespace Go.Abs
noncomputable section
variable [Gl]
section ren
def wG {α:Type} (p:α→α→Bool):List α→List α→Bool
 | [],[]=>true
 | a :: l,b :: m=>match p a b with
  | true=>wG p l m
  | false=>false
 | _,_=>false
theorem xK {α:Type} {p:α→α→Bool}:∀ {l m:List α},wG p l m=true→l.length=m.length∧∀ (i:Nat) (hi:i < l.length) (hj:i < m.length),p l[i] m[i]=true
 | [],[],_=>⟨rfl,fun i hi=>absurd hi (Nat.not_lt_zero _)⟩
 | a :: l,b :: m,h=>by
  unfold wG at h
  split at h
  ·rename_i hp
   obtain ⟨h1,h2⟩:=xK h
   refine ⟨by simp [h1],fun i hi hj => ?_⟩
   cases i with
   | zero=>exact hp
   | succ i=>exact h2 i (by simpa using hi) (by simpa using hj)
  ·cases h
 | [],_ :: _,h=>by cases h
 | _ :: _,[],h=>by cases h
def eqO:Option Nat→Option Nat→Bool
 | none,none=>true
 | some a,some b=>Nat.beq a b
 | _,_=>false
theorem xb9 {a b:Option Nat} (h:eqO a b=true):a=b:=by
 unfold eqO at h
 split at h
 ·rfl
 ·rw [Nat.eq_of_beq_eq_true h]
 ·cases h
def ltB (N:Nat):Nat→AV→Bool
 | 0,_=>false
 | f + 1,x=>match x with
  | .junk | .bool _ | .int _ _ | .str _ | .nilp | .nils | .nilf | .nili | .nilm | .gp _ _=>true
  | .agg cs=>vj (ltB N f) cs
  | .tup cs=>vj (ltB N f) cs
  | .vs es _=>vj (vj (ltB N f)) es
  | .vp row _=>vj (ltB N f) row
  | .ptr b _ _=>Nat.blt b N
  | .ms b _ _ _=>Nat.blt b N
  | .mp b=>Nat.blt b N
  | .yld l=>Nat.blt l 1000000000
  | .fn _ a c=>vj (ltB N f) a && vj (ltB N f) c
  | .ifc _ x=>ltB N f x
theorem yae {N:Nat}:∀ {f:Nat} {x:AV},ltB N f x=true→Lt N 1000000000 x
 | 0,_,h=>by cases h
 | f + 1,x,h=>by
  have ih:∀ {x:AV},ltB N f x=true→Lt N 1000000000 x:=fun h=>yae h
  have all:∀ {l:List AV},vj (ltB N f) l=true→∀ (i:Nat) (hi:i < l.length),Lt N 1000000000 l[i]:=fun h i hi=>ih (xG h _ (List.getElem_mem hi))
  unfold ltB at h
  split at h
  ·exact .junk
  ·exact .bool _
  ·exact .int _ _
  ·exact .str _
  ·exact .nilp
  ·exact .nils
  ·exact .nilf
  ·exact .nili
  ·exact .nilm
  ·exact .gp _ _
  ·exact .agg _ (all h)
  ·exact .tup _ (all h)
  ·exact .vs _ _ fun i hi j hj=>all (xG h _ (List.getElem_mem hi)) j hj
  ·exact .vp _ _ (all h)
  ·exact .ptr _ _ _ (by simpa [Nat.blt_eq] using h)
  ·exact .ms _ _ _ _ (by simpa [Nat.blt_eq] using h)
  ·exact .mp _ (by simpa [Nat.blt_eq] using h)
  ·exact .yld _ (by simpa [Nat.blt_eq] using h)
  ·rw [Bool.and_eq_true] at h
   exact .fn _ _ _ (all h.1) (all h.2)
  ·exact .ifc _ _ (ih h)
def zQ (N:Nat) (σ:Nat→Nat):Nat→AV→AV→Bool
 | 0,_,_=>false
 | f + 1,x,y=>match x,y with
  | .junk,.junk=>true
  | .ptr b k l,.ptr b' k' l'=>Nat.beq (σ b) b' && Nat.beq k k' && Nat.beq l l'
  | .ms b k l c,.ms b' k' l' c'=>Nat.beq (σ b) b' && Nat.beq k k' && Nat.beq l l' && eqO c c'
  | .agg l,.agg l'=>wG (zQ N σ f) l l'
  | .tup l,.tup l'=>wG (zQ N σ f) l l'
  | .mp b,.mp b'=>Nat.beq (σ b) b'
  | x,y=>qq 30 x y && ltB N 30 x
theorem xaE {σ:Nat→Nat} {N:Nat}:∀ {f:Nat} {x y:AV},zQ N σ f x y=true→RenF σ N x y
 | 0,_,_,h=>by cases h
 | f + 1,x,y,h=>by
  have ih:∀ {x y:AV},zQ N σ f x y=true→RenF σ N x y:=fun h=>xaE h
  unfold zQ at h
  split at h
  ·exact .same _ 0 .junk
  ·rename_i b k l b' k' l'
   simp only [Bool.and_eq_true] at h
   obtain ⟨⟨h1,h2⟩,h3⟩:=h
   rw [← Nat.eq_of_beq_eq_true h1,← Nat.eq_of_beq_eq_true h2,← Nat.eq_of_beq_eq_true h3]
   exact .ptr _ _ _
  ·rename_i b k l c b' k' l' c'
   simp only [Bool.and_eq_true] at h
   obtain ⟨⟨⟨h1,h2⟩,h3⟩,h4⟩:=h
   rw [← Nat.eq_of_beq_eq_true h1,← Nat.eq_of_beq_eq_true h2,← Nat.eq_of_beq_eq_true h3,← xb9 h4]
   exact .ms _ _ _ _
  ·obtain ⟨h1,h2⟩:=xK h
   exact .agg _ _ h1 fun i hi hj=>ih (h2 i hi hj)
  ·obtain ⟨h1,h2⟩:=xK h
   exact .tup _ _ h1 fun i hi hj=>ih (h2 i hi hj)
  ·rw [← Nat.eq_of_beq_eq_true h]
   exact .mp _
  ·simp only [Bool.and_eq_true] at h
   rw [← yG _ _ _ h.1]
   exact .same _ _ (yae h.2)
def eqB:Bool→Bool→Bool
 | true,b=>b
 | false,b => !b
theorem xbr {a b:Bool} (h:eqB a b=true):a=b:=by cases a <;> cases b <;> first | rfl | cases h
def uaC (N:Nat) (p q:AV × AV):Bool:=qq 30 p.1 q.1 && qq 30 p.2 q.2 && ltB N 30 p.1 && ltB N 30 p.2
def yaE (N:Nat) (σ:Nat→Nat):Option Blk→Option Blk→Bool
 | none,none=>true
 | some (.rows rs g fz),some (.rows rs' g' fz')=>eqB g g' && eqB fz fz' && wG (wG (zQ N σ 30)) rs rs'
 | some (.mapb es),some (.mapb es')=>wG (uaC N) es es'
 | _,_=>false
theorem wbN {σ:Nat→Nat} {N:Nat} {x y:Option Blk} (h:yaE N σ x y=true):zP σ N x y:=by
 unfold yaE at h
 split at h
 ·exact .dead
 ·simp only [Bool.and_eq_true] at h
  obtain ⟨⟨h1,h2⟩,h3⟩:=h
  rw [← xbr h1,← xbr h2]
  obtain ⟨a1,a2⟩:=xK h3
  exact .rows _ _ _ _ a1 (fun k h1 h2=>(xK (a2 k h1 h2)).1) fun k h1 h2 l h3 h4=>xaE ((xK (a2 k h1 h2)).2 l h3 h4)
 ·rename_i es es'
  obtain ⟨a1,a2⟩:=xK h
  have e:es=es':=by
   apply List.ext_getElem a1
   intro k h1 h2
   have:=a2 k h1 h2
   unfold uaC at this
   simp only [Bool.and_eq_true] at this
   exact Prod.ext (yG _ _ _ this.1.1.1) (yG _ _ _ this.1.1.2)
  subst e
  refine .same _ 1000000000 fun e he => ?_
  obtain ⟨k,hk,rfl⟩:=List.getElem_of_mem he
  have:=a2 k hk hk
  unfold uaC at this
  simp only [Bool.and_eq_true] at this
  exact ⟨yae this.1.2,yae this.2⟩
 ·cases h
def jX {α:Type}:List (Option α)→Bool
 | []=>true
 | none :: l=>jX l
 | some _ :: _=>false
theorem gaI {α:Type}:∀ {l:List (Option α)},jX l=true→l=List.replicate l.length none
 | [],_=>rfl
 | none :: l,h=>by rw [List.length_cons,List.replicate_succ,← gaI (l:=l) h]
 | some _ :: _,h=>by cases h
end ren
def ul (p a b i:Nat):Nat:=match Nat.blt i p with
 | true=>i
 | false=>match Nat.blt i (p + a) with
  | true=>i + b
  | false=>match Nat.blt i (p + a + b) with
   | true=>i - a
   | false=>i
omit [Gl] in
theorem j9 (p a b i:Nat):ul p a b i=if i < p then i else if i < p + a then i + b else if i < p + a + b then i - a else i:=by
 unfold ul
 split
 ·rename_i h;rw [Nat.blt_eq] at h;rw [if_pos h]
 ·rename_i h
  have h:¬ i < p:=by rw [← Nat.blt_eq,h];exact Bool.false_ne_true
  rw [if_neg h]
  split
  ·rename_i h2;rw [Nat.blt_eq] at h2;rw [if_pos h2]
  ·rename_i h2
   have h2:¬ i < p + a:=by rw [← Nat.blt_eq,h2];exact Bool.false_ne_true
   rw [if_neg h2]
   split
   ·rename_i h3;rw [Nat.blt_eq] at h3;rw [if_pos h3]
   ·rename_i h3
    have h3:¬ i < p + a + b:=by rw [← Nat.blt_eq,h3];exact Bool.false_ne_true
    rw [if_neg h3]
omit [Gl] in
theorem va0 (p a b i:Nat):ul p b a (ul p a b i)=i:=by
 rw [j9,j9]
 by_cases h1:i < p
 ·rw [if_pos h1,if_pos h1]
 ·rw [if_neg h1]
  by_cases h2:i < p + a
  ·rw [if_pos h2,if_neg (by omega),if_neg (by omega),if_pos (by omega)];omega
  ·rw [if_neg h2]
   by_cases h3:i < p + a + b
   ·rw [if_pos h3,if_neg (by omega),if_pos (by omega)];omega
   ·rw [if_neg h3,if_neg h1,if_neg (by omega),if_neg (by omega)]
def yU (N:Nat) (σ:Nat→Nat) (e:EH):List (Option Blk) :=
 ((List.range (e.n - N)).map fun k=>qaI e.cells (e.n - 1 - σ (e.n - 1 - k))) ++ e.cells.drop (e.n - N)
def zaE (N p a b:Nat) (tsA:TS) (eA:EH) (tsB:TS) (eB:EH):Bool :=
 Nat.ble N p && Nat.ble (p + a + b) eB.n && wG (zQ N (ul p a b) 30) tsA.flatten tsB.flatten && wG (yaE N (ul p a b)) eA.cells (yU N (ul p a b) eB)
def jap:Nat→AV→List Nat
 | 0,_=>[]
 | f + 1,x=>match x with
  | .ptr b _ _=>[b]
  | .ms b _ _ _=>[b]
  | .mp b=>[b]
  | .agg l=>l.flatMap (jap f)
  | .tup l=>l.flatMap (jap f)
  | _=>[]
def yay:List Nat→List Nat→Nat
 | x :: l,y :: m=>match Nat.blt x y with | true=>y - x | false=>yay l m
 | _,_=>0
def qb4 (N:Nat) (tsA:TS) (tsB:TS) (n:Nat):List (Nat × Nat × Nat) :=
 let A:=tsA.flatten.flatMap (jap 20)
 let B:=tsB.flatten.flatMap (jap 20)
 let b:=yay A B
 let a:=yay B A
 match Nat.beq a 0,Nat.beq b 0 with
 | true,true=>[(N,0,0)]
 | false,false=>(List.range (n - N)).map fun p=>(N + p,a,b)
 | true,false=>(List.range (n - N)).flatMap fun p=>(List.range (n - N - p)).map fun a=>(N + p,a + 1,b)
 | false,true=>(List.range (n - N)).flatMap fun p=>(List.range (n - N - p)).map fun b=>(N + p,a,b + 1)
def qM (N:Nat):List (Option jc)→Bool
 | []=>true
 | none :: l=>qM N l
 | some r :: l=>match vj (ltB N 30) r.tmps with | true=>qM N l | false=>false
theorem waK {N:Nat}:∀ {l:List (Option jc)},qM N l=true→∀ r,some r∈l→∀ x∈r.tmps,Lt N 1000000000 x
 | [],_,_,hr=>by cases hr
 | none :: l,h,r,hr=>by
  rcases List.mem_cons.1 hr with hr | hr
  ·cases hr
  ·exact waK (l:=l) h r hr
 | some r' :: l,h,r,hr=>by
  unfold qM at h
  split at h
  ·rename_i ha
   rcases List.mem_cons.1 hr with hr | hr
   ·injection hr with hr;subst hr
    exact fun x hx=>yae (xG ha x hx)
   ·exact waK h r hr
  ·cases h
def jaC (q:Bool) (N:Nat) (tsA:TS) (eA:EH) (tsB:TS) (eB:EH):Bool :=
 Nat.beq eA.n eB.n && Nat.ble N eB.n && (match q with | true=>qM N eA.loops | false=>jX eA.loops && jX eB.loops && Nat.beq eA.loops.length eB.loops.length) &&
  (qb4 N tsA tsB eB.n).any fun g=>zaE N g.1 g.2.1 g.2.2 tsA eA tsB eB
theorem xbN {N p a b:Nat} {tsA tsB:TS} {eA eB:EH} (hA:eA.ok) (hB:eB.ok) (hn:eA.n=eB.n) (hN:N≤eB.n)
  (hll:eA.loops=eB.loops) (hlt:qM N eA.loops=true) (h:zaE N p a b tsA eA tsB eB=true) :
  vT (ul p a b) (ul p b a) N ⟨tsA.flatten,eA.abs⟩ ⟨tsB.flatten,eB.abs⟩:=by
 unfold zaE at h
 simp only [Bool.and_eq_true,Nat.ble_eq] at h
 obtain ⟨⟨⟨hp,hpe⟩,ht⟩,hb⟩:=h
 obtain ⟨t1,t2⟩:=xK ht
 obtain ⟨b1,b2⟩:=xK hb
 have lA:eA.cells.length=eA.n:=hA.1.symm
 have lB:eB.cells.length=eB.n:=hB.1.symm
 have hfix:∀ c,c < N→ul p a b c=c:=fun c hc=>by rw [j9,if_pos (by omega)]
 have hin:∀ c,eB.n≤c→ul p a b c=c:=fun c hc=>by rw [j9,if_neg (by omega),if_neg (by omega),if_neg (by omega)]
 have hlt':∀ c,c < eB.n→ul p a b c < eB.n:=fun c hc=>by
  rw [j9]
  split
  ·exact hc
  ·split
   ·omega
   ·split
    ·omega
    ·exact hc
 refine ⟨⟨va0 p b a,va0 p a b,hfix⟩,by simp [EH.abs];omega,by simp [EH.abs];omega,fun c hc => ?_,fun c => ?_,hll,fun l r hl => ?_,t1,fun k h1 h2=>xaE (t2 k h1 h2)⟩
 ·have hc':ul p a b c < eB.n:=by simpa [EH.abs,lB] using hc
  show c < eB.cells.reverse.length
  rw [List.length_reverse,lB]
  rcases Nat.lt_or_ge c eB.n with h | h
  ·exact h
  ·rw [hin c h] at hc';exact hc'
 ·rcases Nat.lt_or_ge c eB.n with hc | hc
  ·have hs:=hlt' c hc
   have eA1:eA.abs.blk? c=(eA.cells[eB.n - 1 - c]?).join:=by
    show (eA.cells.reverse[c]?).join=_
    rw [List.getElem?_reverse (by omega),lA,hn]
   have eB1:eB.abs.blk? (ul p a b c)=(eB.cells[eB.n - 1 - ul p a b c]?).join:=by
    show (eB.cells.reverse[ul p a b c]?).join=_
    rw [List.getElem?_reverse (by omega),lB]
   have hk:eB.n - 1 - c < eA.cells.length:=by omega
   have hpl:(yU N (ul p a b) eB).length=eB.n:=by simp [yU,lB,hN]
   have hk2:eB.n - 1 - c < (yU N (ul p a b) eB).length:=by omega
   have hx:=b2 _ hk hk2
   have hsw0:(yU N (ul p a b) eB)[eB.n - 1 - c]? = some ((eB.cells[eB.n - 1 - ul p a b c]?).join):=by
    show (((List.range (eB.n - N)).map fun k=>qaI eB.cells (eB.n - 1 - ul p a b (eB.n - 1 - k))) ++ eB.cells.drop (eB.n - N))[eB.n - 1 - c]? = _
    rcases Nat.lt_or_ge c N with hcN | hcN
    ·rw [List.getElem?_append_right (by simp;omega),List.getElem?_drop]
     simp only [List.length_map,List.length_range]
     rw [show eB.n - N + (eB.n - 1 - c - (eB.n - N))=eB.n - 1 - c from by omega,hfix c hcN,List.getElem?_eq_getElem (by omega)]
     rfl
    ·rw [List.getElem?_append_left (by simp;omega),List.getElem?_map,List.getElem?_range (by omega)]
     simp only [Option.map_some,wbd]
     rw [show eB.n - 1 - (eB.n - 1 - c)=c from by omega]
   have hsw:(yU N (ul p a b) eB)[eB.n - 1 - c]=(eB.cells[eB.n - 1 - ul p a b c]?).join:=(List.getElem?_eq_some_iff.1 hsw0).2
   rw [hsw] at hx
   rw [eA1,eB1,List.getElem?_eq_getElem hk]
   exact wbN hx
  ·have eA1:eA.abs.blk? c=none:=by
    show (eA.cells.reverse[c]?).join=none
    rw [List.getElem?_eq_none (by rw [List.length_reverse];omega)];rfl
   have eB1:eB.abs.blk? (ul p a b c)=none:=by
    rw [hin c hc]
    show (eB.cells.reverse[c]?).join=none
    rw [List.getElem?_eq_none (by rw [List.length_reverse];omega)];rfl
   rw [eA1,eB1];exact .dead
 ·refine ⟨1000000000,waK hlt r ?_⟩
  have hl':(eB.loops[l]?).join=some r:=hl
  rw [hll]
  cases ho:eB.loops[l]? with
  | none=>rw [ho] at hl';cases hl'
  | some o=>rw [ho] at hl';have:o=some r:=hl';exact this ▸ List.mem_of_getElem? ho
theorem ybg {N:Nat}:∀ {l:List (Option jc)},jX l=true→qM N l=true
 | [],_=>rfl
 | none :: l,h=>ybg (l:=l) h
 | some _ :: _,h=>by cases h
theorem xbL {q:Bool} {N:Nat} {tsA tsB:TS} {eA eB:EH} (hA:eA.ok) (hB:eB.ok) (hq:q=true→eA.loops=eB.loops) (h:jaC q N tsA eA tsB eB=true):∃ σ τ,vT σ τ N ⟨tsA.flatten,eA.abs⟩ ⟨tsB.flatten,eB.abs⟩:=by
 unfold jaC at h
 simp only [Bool.and_eq_true,List.any_eq_true] at h
 obtain ⟨⟨⟨h1,h2⟩,h3⟩,h6⟩:=h
 have hn:=Nat.eq_of_beq_eq_true h1
 have hN:N≤eB.n:=by simpa [Nat.ble_eq] using h2
 have hl:eA.loops=eB.loops∧qM N eA.loops=true:=by
  cases q with
  | true=>exact ⟨hq rfl,h3⟩
  | false =>
   simp only [Bool.and_eq_true] at h3
   exact ⟨by rw [gaI h3.1.1,gaI h3.1.2,Nat.eq_of_beq_eq_true h3.2],ybg h3.1.1⟩
 obtain ⟨g,_,h6⟩:=h6
 exact ⟨_,_,xbN hA hB hn hN hl.1 hl.2 h6⟩
section run
variable [Bare] {R:Type} (ih:IH R) {P:Program} (T:Tab) (M:FuncId→Option (List AV→Option AV))
def gbl (ops:Array Oper) (lt:List Nat) (k:Nat):Bool:=match ops[k]? with
 | some o=>wN o.op && !(waL M o.op && lt.any (Nat.beq k))
 | none=>false
def wbg (lt:List Nat) (ops:Array Oper):Option (Nat × Nat) :=
 let ms:=qj ops
 (List.range ops.size).findSome? fun b=>match gbl M ops lt b with
  | true=>(match (List.range b).reverse.find? fun a=>gbl M ops lt a with
   | some a=>(match Nat.testBit (ms.getD b 0) a with
    | true=>none
    | false=>some (a,b))
   | none=>none)
  | false=>none
def zl (ops:Array Oper) (a b:Nat):List Nat :=
 let m:=(qj ops).getD b 0
 let seg:=(List.range (b + 1 - a)).map fun d=>a + d
 let anc:=fun i=>Nat.beq i b || Nat.testBit m i
 List.range a ++ seg.filter anc ++ (seg.filter fun i => !anc i) ++ (List.range (ops.size - 1 - b)).map fun d=>b + 1 + d
def muN (l:List Nat) (n j:Nat):Nat:=match Nat.blt j n with | true=>l.getD j j | false=>j
def ji (l:List Nat) (n i:Nat):Nat:=match Nat.blt i n with | true=>l.idxOf i | false=>i
def xac (l:List Nat) (n:Nat):Bool:=(List.range n).all fun i=>Nat.blt (muN l n i) n && Nat.blt (ji l n i) n && Nat.beq (ji l n (muN l n i)) i && Nat.beq (muN l n (ji l n i)) i
omit [Gl] [Bare] in
theorem uaG {l:List Nat} {n:Nat} (h:xac l n=true):(∀ i,muN l n (ji l n i)=i)∧(∀ i,ji l n (muN l n i)=i)∧(∀ i,i < n→ji l n i < n)∧(∀ i,i < n→muN l n i < n):=by
 have hin:∀ i,i < n→muN l n i < n∧ji l n i < n∧ji l n (muN l n i)=i∧muN l n (ji l n i)=i:=fun i hi=>by
  have:=(List.all_eq_true.1 h) i (List.mem_range.2 hi)
  simp only [Bool.and_eq_true,Nat.blt_eq,Nat.beq_eq] at this
  exact ⟨this.1.1.1,this.1.1.2,this.1.2,this.2⟩
 have hout:∀ i,¬ i < n→muN l n i=i∧ji l n i=i:=fun i hi=>by
  have:Nat.blt i n=false:=by rw [← Bool.not_eq_true,Nat.blt_eq];exact hi
  unfold muN ji
  rw [this];exact ⟨rfl,rfl⟩
 refine ⟨fun i => ?_,fun i => ?_,fun i hi=>(hin i hi).2.1,fun i hi=>(hin i hi).1⟩
 ·by_cases hi:i < n
  ·exact (hin i hi).2.2.2
  ·rw [(hout i hi).2,(hout i hi).1]
 ·by_cases hi:i < n
  ·exact (hin i hi).2.2.1
  ·rw [(hout i hi).1,(hout i hi).2]
def wA (q:Bool):Nat→List Nat→Array Oper→TS→EH→(gb→TS→EH→Option R)→Option R
 | 0,_,_,_,_,_=>none
 | f + 1,lt,ops,ts,e,K=>match wbg M lt ops with
  | none=>qau T M lt ih ops ts e K
  | some (a,b)=>match Nat.blt a b && Nat.blt b ops.size && xac (zl ops a b) ops.size with
   | true=>wA q f lt (wC ops (fun i=>i) (fun i=>i) a b) ts e fun xA tsA eA=>wA q f (lt.map (ji (zl ops a b) ops.size)) (wC ops (ji (zl ops a b) ops.size) (muN (zl ops a b) ops.size) (ji (zl ops a b) ops.size b) (ji (zl ops a b) ops.size a)) ts e fun _ tsB eB=>match jaC q e.n tsA eA tsB eB with
    | true=>K xA tsA eA
    | false=>none
   | false=>none
theorem jbr (hc:∀ ts e o,zt (R:=R) e (opE ih T ts e o)) (q:Bool):∀ (f:Nat) (lt:List Nat) (ops:Array Oper) (ts:TS) (e:EH),vbz e fun K=>wA ih T M q f lt ops ts e K
 | 0,_,_,_,_,_,_,_=>rfl
 | f + 1,lt,ops,ts,e,K,K',h=>by
  show wA ih T M q (f + 1) lt ops ts e K=wA ih T M q (f + 1) lt ops ts e K'
  unfold wA
  split
  ·unfold qau
   split
   ·exact gbr T ih M hc _ _ _ _ _ _ _ _ _ K K' h
   ·rfl
  ·split
   ·refine jbr hc q f _ _ ts e _ _ fun xA tsA eA hA => ?_
    refine congrArg _ ?_
    funext _ tsB eB
    split
    ·exact h _ _ _ hA
    ·rfl
   ·rfl
theorem jau (hT:wc P T) (hX:jv P) (hM:yr P M) (hih:ih.OK P) {q:Bool} (hq:q=true→∀ ts e o,zt (R:=R) e (opE ih T ts e o)) {ops:Array Oper} {ts:TS} {e:EH} (he:e.ok) (ht:okT ts):∀ (f:Nat) (lt:List Nat) (opx:Array Oper) (π ρ:Nat→Nat) (X:List (Nat × Nat)) (K:gb→TS→EH→Option R) (y:R),
  Sim ops opx π ρ X→wA ih T M q f lt opx ts e K=some y →
  ∃ ts' e',(q=true→e'.loops=e.loops)∧e'.ok∧okT ts'∧K .normal ts' e'=some y∧∀ Q:gb→St→Prop,Q .normal ⟨ts'.flatten,e'.abs⟩→∀ n m rnd,yx P n m rnd ops X ⟨ts.flatten,e.abs⟩ Q
 | 0,_,_,_,_,_,_,_,_,h=>by cases h
 | f + 1,lt,opx,π,ρ,X,K,y,sm,h=>by
  let K₁:gb→TS→EH→Option R:=fun x ts' e' => @ite _ (q=true→e'.loops=e.loops) (Classical.propDecidable _) (K x ts' e') none
  have hK:wA ih T M q (f + 1) lt opx ts e K=wA ih T M q (f + 1) lt opx ts e K₁:=by
   cases hqq:q with
   | true =>
    rw [hqq] at hq
    refine jbr ih T M (hq rfl) true (f + 1) lt opx ts e K K₁ fun x ts' e' hl => ?_
    show _ = @ite _ _ (Classical.propDecidable _) _ _
    rw [if_pos fun _=>hl]
   | false =>
    have:K=K₁:=by
     funext x ts' e'
     show _ = @ite _ _ (Classical.propDecidable _) _ _
     rw [if_pos fun h=>by rw [hqq] at h;cases h]
    rw [← this]
  have hK₁:∀ {x ts' e' y},K₁ x ts' e'=some y→(q=true→e'.loops=e.loops)∧K x ts' e'=some y:=fun {x ts' e' y} h=>by
   replace h : @ite _ (q=true→e'.loops=e.loops) (Classical.propDecidable _) (K x ts' e') none=some y:=h
   by_cases hh:q=true→e'.loops=e.loops
   ·rw [if_pos hh] at h;exact ⟨hh,h⟩
   ·rw [if_neg hh] at h;cases h
  rw [hK] at h
  unfold wA at h
  split at h
  ·unfold qau at h
   split at h
   ·rename_i hb
    unfold uv at hb
    rw [Bool.and_eq_true] at hb
    have hback:=wbx hb.1
    obtain ⟨V,isW,H,past,sil,ts',e',pr,h0,he',ht',hX1,hH,hk⟩:=qbr (P:=P) (A0:=ts.flatten) ih T M hM hX hih hback opx.toList 0 [] [] ts e (fun _=>.junk) (fun _=>false) (fun _=>e.abs) rfl (Nat.zero_le _)
     ⟨fun i j _ h=>by omega,fun i h=>by omega,fun i o h=>by omega,(fun s hs=>nomatch hs),(fun p hp=>nomatch hp),fun w h=>by omega,trivial⟩ he ht rfl rfl h
    have pl:Plan P T opx ts.flatten V isW H:=⟨hback,gbx hb.2,fun i j hij hj=>pr.total i j hij hj,fun i hi=>pr.same i hi,fun i o ho=>by
     rcases pr.ok i o (Array.getElem?_eq_some_iff.1 ho).1 ho with g | g | ⟨g1,g2,_,g4⟩
     ·exact .inl g
     ·exact .inr (.inl g)
     ·exact .inr (.inr ⟨g1,g2,g4⟩)⟩
    refine ⟨ts',e',(hK₁ hk).1,he',ht',(hK₁ hk).2,fun Q hq n m rnd t hkeep => ?_⟩
    have:=qa3 (n:=n) (m:=m) (rnd:=rnd) (Q:=Q) sm pl hT hkeep (by rw [← hX1,← hH];exact hq)
    rw [h0] at this
    exact this
   ·cases h
  ·rename_i a b hab
   split at h
   ·rename_i hlt
    rw [Bool.and_eq_true,Bool.and_eq_true,Nat.blt_eq,Nat.blt_eq] at hlt
    obtain ⟨⟨h1,h2⟩,hperm⟩:=hlt
    obtain ⟨v1,v2,v3,v4⟩:=uaG hperm
    have smA:=sm.step (κ:=fun i=>i) (μ:=fun i=>i) (p:=a) (q:=b) (fun _=>rfl) (fun _=>rfl) (fun _ h=>h) (fun _ h=>h) (by omega)
    have smB:=sm.step (κ:=ji (zl opx a b) opx.size) (μ:=muN (zl opx a b) opx.size) (p:=ji (zl opx a b) opx.size b) (q:=ji (zl opx a b) opx.size a) v1 v2 v3 v4 (v3 b h2)
    obtain ⟨tsA,eA,a0,a1,a2,a3,a4⟩:=jau hT hX hM hih hq he ht f _ _ _ _ _ _ y smA h
    obtain ⟨tsB,eB,b0,b1,b2,b3,b4⟩:=jau hT hX hM hih hq he ht f _ _ _ _ _ _ y smB a3
    split at b3
    ·rename_i hs
     obtain ⟨σ,τ,hr⟩:=xbL a1 b1 (fun h=>(a0 h).trans (b0 h).symm) hs
     refine ⟨tsA,eA,a0,a1,a2,(hK₁ b3).2,fun Q hq n m rnd => ?_⟩
     have hne:ρ a≠ρ b:=fun e=>by
      have:=congrArg π e
      rw [sm.rp,sm.rp] at this
      omega
     have hN:e.abs.blks.length≤e.n:=by
      have hok:e.n=e.cells.length:=he.1
      simp [EH.abs,hok]
     refine ybb hne (a4 Q hq n m rnd) (xbb ?_)
     have:=b4 (fun x s=>∃ σ τ N s0,e.abs.blks.length≤N∧vT σ τ N s0 s∧Q x s0) ⟨σ,τ,_,_,hN,hr,hq⟩ n m rnd
     rw [v1,v1] at this
     exact this
    ·cases b3
   ·cases h
variable (hd:Op→Bool)
def jaR:zL R:=fun ih ops ts e K=>match (match wbg M (jaq M hd ops) ops with | none=>true | some _=>jX e.loops) with
 | true=>wA ih T M false 20 (jaq M hd ops) ops ts e K
 | false=>wA gd T M true 20 (jaq M hd ops) ops ts e K
theorem gb9 (hT:wc P T) (hX:jv P) (hM:yr P M) (hm:P.follows .mixedOrders=true):jT (jaR (R:=R) T M hd) P where
 ok ih hih id ops ts e K y he ht h:=by
  unfold jaR at h
  split at h
  ·obtain ⟨ts',e',_,h1,h2,h3,h4⟩:=jau ih T M hT hX hM hih (q:=false) (fun h=>by cases h) he ht 20 _ ops _ _ [] K y (Sim.id ops) h
   exact ⟨.normal,ts',e',h1,h2,h3,fun Q hq n m rnd=>zao hm (h4 Q hq n m rnd)⟩
  ·obtain ⟨ts',e',_,h1,h2,h3,h4⟩:=jau gd T M hT hX hM (gcc P) (q:=true) (fun _ ts e o=>gbV T ts e o) he ht 20 _ ops _ _ [] K y (Sim.id ops) h
   exact ⟨.normal,ts',e',h1,h2,h3,fun Q hq n m rnd=>zao hm (h4 Q hq n m rnd)⟩
end run
end
end Go.Abs

namespace Go.Abs
noncomputable section
variable [Gl]
section weak
def Heap.le (h0 h:Heap):Prop:=h0.blks.length=h.blks.length∧h0.loops=h.loops∧∀ b x,h0.blk? b=some x→h.blk? b=some x
omit [Gl] in
theorem Heap.le_refl (h:Heap):h.le h:=⟨rfl,rfl,fun _ _ h=>h⟩
def Env.only (E:Env) (h0:Heap):Env:={ E with ρ:=fun b=>match h0.blk? b with | some _=>E.ρ b | none=>none }
theorem yb4 {E:Env} {w:World} {h h0:Heap} (hr:HR E w h) (hle:h0.le h) (n m:Nat):HR (E.only h0) w h0∧Ext n m E w (E.only h0) w:=by
 obtain ⟨l1,l2,l3⟩:=hle
 have hin:∀ b x,h0.blk? b=some x→(E.only h0).ρ b=E.ρ b:=fun b x hb=>by simp [Env.only,hb]
 have hout:∀ b Ls,(E.only h0).ρ b=some Ls→E.ρ b=some Ls:=fun b Ls hb=>by
  cases hx:h0.blk? b with
  | none=>simp [Env.only,hx] at hb
  | some x=>rw [hin b x hx] at hb;exact hb
 have keeps:∀ n m,Keeps n m E w (E.only h0) w:=fun n m =>
  ⟨fun B o v a b=>⟨a,b⟩,fun b _ Ls' hLs'=>⟨Ls',hout b Ls' hLs',fun L hL=>⟨L,hL,rfl,rfl,rfl,rfl,Nat.le_refl _⟩⟩,fun _ _ _ h=>h⟩
 have hfoot:∀ B,zf (E.only h0) B→zf E B:=by
  rintro B (⟨b,Ls,L,h1,h2,rfl⟩ | ⟨l,h1⟩)
  ·exact .inl ⟨b,Ls,L,hout b Ls h1,h2,rfl⟩
  ·exact .inr ⟨l,h1⟩
 refine uy (B:=Ext ..) ⟨keeps n m,Nat.le_refl _,rfl,rfl,rfl,fun _ _ _=>rfl,fun _ _ h=>.inl h,fun B _ h=>hfoot B h⟩ fun hx => ?_
 have lp:∀ l,h0.loop? l=h.loop? l:=fun l=>by unfold Heap.loop?;rw [l2]
 refine ⟨fun b hb=>by simp [Env.only,hb],fun b rs g fz hb => ?_,fun b es hb => ?_,fun b b' Ls Ls' L L' hne k1 k2=>hr.apart b b' Ls Ls' L L' hne (hout _ _ k1) (hout _ _ k2),fun l hl=>hr.deadl l (lp l ▸ hl),fun l r hl => ?_,hr.lapart,⟨fun b x hb => ?_,fun l r hl x hx => ?_⟩,hr.inside,hr.globs.ext hx⟩
 ·have hb':=l3 _ _ hb
  obtain ⟨Ls,h1,h2⟩:=hr.rows b rs g fz hb'
  refine ⟨Ls,by rw [hin b _ hb];exact h1,h2.one,h2.now,fun L hL => ?_,h2.apart⟩
  have hl:=h2.all L hL
  obtain ⟨arr,el,a1,a2,a3⟩:=hl.lies
  refine ⟨⟨arr,el,a1,a2,fun i hi hi' j hj => ?_⟩,hl.len,hl.fits,hl.sz,hl.own,hl.free⟩
  obtain ⟨v,b1,b2,b3⟩:=a3 i hi hi' j hj
  exact ⟨v,b1,b2.keep (keeps _ _) (hr.lt.blks b _ hb' _ (List.getElem_mem hi) _ (List.getElem_mem hj)),b3⟩
 ·have hb':=l3 _ _ hb
  obtain ⟨Ls,h1,⟨L,ces,clock,rfl,h3,h4,h5,h6⟩⟩:=hr.maps b es hb'
  refine ⟨[L],by rw [hin b _ hb];exact h1,⟨L,ces,clock,rfl,h3,h4,h5,fun i hi hj => ?_⟩⟩
  have hl:=hr.lt.blks b _ hb' _ (List.getElem_mem hi)
  exact ⟨(h6 i hi hj).1.keep (keeps _ _) hl.1,(h6 i hi hj).2.keep (keeps _ _) hl.2⟩
 ·rw [lp] at hl
  obtain ⟨o,k1,⟨ct,df,fi,k2,k3⟩⟩:=hr.loops l r hl
  exact ⟨o,k1,⟨ct,df,fi,k2,k3.keep (keeps h.blks.length h.loops.length) (hr.lt.loops l r hl)⟩⟩
 ·rw [l1,l2];exact hr.lt.blks b x (l3 _ _ hb)
 ·rw [l1,l2];rw [lp] at hl;exact hr.lt.loops l r hl x hx
end weak
section lit
structure HLit where
 bs:List (Option Blk)
 nl:Nat
def HLit.abs (l:HLit):Heap:=⟨l.bs,List.replicate l.nl none⟩
section
variable {R:Type}
def qbO (x:Option Blk) (e:EH) (K:EH→Option R):Option R:=gc (Nat.succ e.n) fun n=>uab x e.rb fun rb=>K { n:=n,rb:=rb,loops:=e.loops }
def qbg:List (Option Blk)→EH→(EH→Option R)→Option R
 | [],e,K=>K e
 | b :: r,e,K=>qbO b e fun e=>qbg r e K
def HLit.load (l:HLit) (K:EH→Option R):Option R:=wh (List.replicate l.nl none) fun ls=>qbg l.bs ⟨0,[],ls⟩ K
end
end lit
structure jaY where
 args:List AV
 pre:HLit
 r:AV
 post:HLit
section run
variable {R:Type}
variable [Bare] (T:Tab) {P:Program} (gh:zL R) (F:FuncId→Option Fun) (M:FuncId→Option (List AV→Option AV)) (CF:List (FuncId × List jaY))
end run
section top
variable [Bare] (T:Tab) {P:Program} (F:FuncId→Option Fun) (M:FuncId→Option (List AV→Option AV)) (CF:List (FuncId × List jaY))
variable (gh:zL Unit)
end top
section path
variable {R:Type} (ih:IH R)
variable {P:Program}
end path
section cut
variable [Bare] (T:Tab) {P:Program} (F:FuncId→Option Fun) (M:FuncId→Option (List AV→Option AV)) (CF:List (FuncId × List jaY)) (gh:zL Unit)
end cut
end
end Go.Abs

namespace Go.Abs
noncomputable section
variable [Gl]
theorem zZ {E:Env} {w:World} {B G:List (Option Blk)} {L:List (Option jc)} (hr:HR E w ⟨B ++ G,L⟩) (hlt:(Heap.mk B L).Lt) (n m:Nat):HR (E.only ⟨B,L⟩) w ⟨B,L⟩∧Ext n m E w (E.only ⟨B,L⟩) w:=by
 have l3:∀ b x,(Heap.mk B L).blk? b=some x→(Heap.mk (B ++ G) L).blk? b=some x:=fun b x hb=>by
  have hl:=qA hb
  unfold Heap.blk? at hb ⊢
  rw [List.getElem?_append_left hl];exact hb
 have hin:∀ b x,(Heap.mk B L).blk? b=some x→(E.only ⟨B,L⟩).ρ b=E.ρ b:=fun b x hb=>by simp [Env.only,hb]
 have hout:∀ b Ls,(E.only ⟨B,L⟩).ρ b=some Ls→E.ρ b=some Ls:=fun b Ls hb=>by
  cases hx:(Heap.mk B L).blk? b with
  | none=>simp [Env.only,hx] at hb
  | some x=>rw [hin b x hx] at hb;exact hb
 have keeps:∀ n m,Keeps n m E w (E.only ⟨B,L⟩) w:=fun n m =>
  ⟨fun B o v a b=>⟨a,b⟩,fun b _ Ls' hLs'=>⟨Ls',hout b Ls' hLs',fun L hL=>⟨L,hL,rfl,rfl,rfl,rfl,Nat.le_refl _⟩⟩,fun _ _ _ h=>h⟩
 have hfoot:∀ B',zf (E.only ⟨B,L⟩) B'→zf E B':=by
  rintro B' (⟨b,Ls,L',h1,h2,rfl⟩ | ⟨l,h1⟩)
  ·exact .inl ⟨b,Ls,L',hout b Ls h1,h2,rfl⟩
  ·exact .inr ⟨l,h1⟩
 refine uy (B:=Ext ..) ⟨keeps n m,Nat.le_refl _,rfl,rfl,rfl,fun _ _ _=>rfl,fun _ _ h=>.inl h,fun B _ h=>hfoot B h⟩ fun hx => ?_
 refine ⟨fun b hb=>by simp [Env.only,hb],fun b rs g fz hb => ?_,fun b es hb => ?_,fun b b' Ls Ls' L L' hne k1 k2=>hr.apart b b' Ls Ls' L L' hne (hout _ _ k1) (hout _ _ k2),fun l hl=>hr.deadl l hl,fun l r hl => ?_,hr.lapart,hlt,hr.inside,hr.globs.ext hx⟩
 ·have hb':=l3 _ _ hb
  obtain ⟨Ls,h1,h2⟩:=hr.rows b rs g fz hb'
  refine ⟨Ls,by rw [hin b _ hb];exact h1,h2.one,h2.now,fun L hL => ?_,h2.apart⟩
  have hl:=h2.all L hL
  obtain ⟨arr,el,a1,a2,a3⟩:=hl.lies
  refine ⟨⟨arr,el,a1,a2,fun i hi hi' j hj => ?_⟩,hl.len,hl.fits,hl.sz,hl.own,hl.free⟩
  obtain ⟨v,b1,b2,b3⟩:=a3 i hi hi' j hj
  exact ⟨v,b1,b2.keep (keeps _ _) (hr.lt.blks b _ hb' _ (List.getElem_mem hi) _ (List.getElem_mem hj)),b3⟩
 ·have hb':=l3 _ _ hb
  obtain ⟨Ls,h1,⟨L',ces,clock,rfl,h3,h4,h5,h6⟩⟩:=hr.maps b es hb'
  refine ⟨[L'],by rw [hin b _ hb];exact h1,⟨L',ces,clock,rfl,h3,h4,h5,fun i hi hj => ?_⟩⟩
  have hl:=hr.lt.blks b _ hb' _ (List.getElem_mem hi)
  exact ⟨(h6 i hi hj).1.keep (keeps _ _) hl.1,(h6 i hi hj).2.keep (keeps _ _) hl.2⟩
 ·obtain ⟨o,k1,⟨ct,df,fi,k2,k3⟩⟩:=hr.loops l r hl
  exact ⟨o,k1,⟨ct,df,fi,k2,k3.keep (keeps _ _) (hr.lt.loops l r hl)⟩⟩
def q8 (ts' ts:List AV):Prop:=ts'.length=ts.length∧∀ (i:Nat) (x y:AV),ts'[i]? = some x→ts[i]? = some y→x=y∨x=.junk
theorem ybD {P:Program} {n m:Nat} {rnd:Option Nat} {items:List Item} {ts ts':List AV} {B G:List (Option Blk)} {L:List (Option jc)} {Q:gb→St→Prop} (hts:q8 ts' ts)
  (hl:∀ x∈ts',Lt B.length L.length x) (hh:(Heap.mk B L).Lt) (hn:n≤B.length) (g:TodoSem P n m rnd items ⟨ts',⟨B,L⟩⟩ Q):TodoSem P n m rnd items ⟨ts,⟨B ++ G,L⟩⟩ Q :=
 ⟨fun b E w tmps ds base h1 h2 hb h3 _ h5 k cs=>by
  obtain ⟨k1,k2⟩:=zZ h1.heap hh n m
  obtain ⟨_,k3⟩:=zZ h1.heap hh (B ++ G).length L.length
  have hs:StR (E.only ⟨B,L⟩) w ⟨ts',⟨B,L⟩⟩ tmps:=by
   refine ⟨k1,⟨hts.1.trans h1.tmps.size,fun i hi hj => ?_⟩,hl⟩
   have hi':i < ts.length:=by rw [← hts.1];exact hi
   rcases hts.2 i ts'[i] ts[i] (List.getElem?_eq_getElem hi) (List.getElem?_eq_getElem hi') with e | e
   ·show VR _ _ ts'[i] _
    rw [e];exact (h1.tmps.val i hi' hj).keep k3.keeps (h1.lt _ (List.getElem_mem hi'))
   ·show VR _ _ ts'[i] _
    rw [e];exact .junk _
  obtain ⟨e,st',E',w',tmps',ds',q,r1,r2,r3,r4,r5,r6⟩:=g.run b (E.only ⟨B,L⟩) w tmps ds base hs (h2.ext k2) hb h3 hn h5 k cs
  exact ⟨e,st',E',w',tmps',ds',q,r1,r2,k2.trans (Nat.le_refl _) (Nat.le_refl _) r3,r4,r5,r6⟩⟩
omit [Gl] in
theorem gbe {l:List (Nat × AV)} {g:Nat→AV}:∀ (n i:Nat) (j:Nat) (x:AV),ur l (i + j)=some x→j < n→(zj l g n i)[j]? = some x
 | 0,_,_,_,_,h=>by omega
 | n + 1,i,0,x,hx,_=>by
  rw [Nat.add_zero] at hx
  simp [zj,hx]
 | n + 1,i,j + 1,x,hx,h=>by
  simp only [zj,List.getElem?_cons_succ]
  exact gbe n (i + 1) j x (by rw [← hx];congr 1;omega) (by omega)
omit [Gl] in
theorem wac {l:List (Nat × AV)} {g:Nat→AV}:∀ (n i:Nat),(zj l g n i).length=n
 | 0,_=>rfl
 | n + 1,i=>by simp [zj,wac n (i + 1)]
omit [Gl] in
theorem qW {l:List (Nat × AV)} {g:Nat→AV}:∀ (n i j:Nat) (y:AV),(zj l g n i)[j]? = some y→ur l (i + j)=some y∨ur l (i + j)=none∧y=g (n - 1 - j)
 | 0,_,_,_,h=>by simp [zj] at h
 | n + 1,i,0,y,h=>by
  simp only [zj,List.getElem?_cons_zero,Option.some.injEq] at h
  rw [Nat.add_zero]
  cases hl:ur l i with
  | some x=>rw [hl] at h;exact .inl (by rw [← h])
  | none=>rw [hl] at h;exact .inr ⟨rfl,h.symm⟩
 | n + 1,i,j + 1,y,h=>by
  simp only [zj,List.getElem?_cons_succ] at h
  have:=qW n (i + 1) j y h
  rw [show i + 1 + j=i + (j + 1) from by omega] at this
  rcases this with h1 | ⟨h1,h2⟩
  ·exact .inl h1
  ·exact .inr ⟨h1,by rw [h2];congr 1;omega⟩
omit [Gl] in
theorem qaK:∀ {l:List (Nat × AV)} {i:Nat} {x:AV},ur l i=some x→(i,x)∈l
 | [],_,_,h=>by cases h
 | (a,y) :: l,i,x,h=>by
  unfold ur at h
  split at h
  ·rename_i e
   obtain rfl:=Nat.eq_of_beq_eq_true e
   injection h with h;subst h
   exact List.mem_cons_self
  ·exact List.mem_cons_of_mem _ (qaK h)
def jao:List (Nat × AV)→Bool
 | []=>true
 | (a,_) :: l=>(ur l a).isNone && jao l
omit [Gl] in
theorem zbf {ts:List AV}:∀ {l:List (Nat × AV)},jao l=true→(∀ i x,ur l i=some x→ts[i]? = some x)→jC ts l
 | [],_,_=>trivial
 | (a,x) :: l,ho,h=>by
  simp only [jao,Bool.and_eq_true] at ho
  refine ⟨h a x (by simp [ur]),zbf ho.2 fun i y hy=>h i y ?_⟩
  unfold ur
  split
  ·rename_i e
   have:a=i:=by first | exact Nat.eq_of_beq_eq_true e | (simpa using e)
   subst this
   rw [hy] at ho;simp at ho
  ·exact hy
theorem jz {P:Program} {T:Tab} {n m:Nat} {rnd:Option Nat} [Bare] [FH] (hT:wc P T) (hm:P.follows .mixedOrders=true) {c:Code} {Q:gb→St→Prop} {A:Type} (len:Nat) (mea:A→Nat) (I:A→Prop) (pt:A→List (Nat × AV)) (hp:A→Heap)
  (hside:∀ a,I a→jao (pt a)=true∧(∀ p∈pt a,Lt (hp a).blks.length (hp a).loops.length p.2)∧(hp a).Lt∧n≤(hp a).blks.length)
  (step:∀ (a:A) (g:Nat→AV),I a→yH (pt a) g len 0 fun ts=>FH.fh (hp a) fun h=>wpx P T n m rnd c ⟨ts,h⟩ (fun e s'=>match e with
   | .normal=>∃ a' G,mea a' < mea a∧I a'∧s'.h=⟨(hp a').blks ++ G,(hp a').loops⟩∧s'.tmps.length=len∧jC s'.tmps (pt a')
   | .jump j=>Q (.jump j) s')) (a:A) (st:St) (h1:I a) (h2:st.h=hp a) (h3:st.tmps.length=len) (h4:jC st.tmps (pt a)):TodoSem P n m rnd [.inLoop c] st Q:=by
 have key:∀ (k:Nat) (a:A) (st:St),mea a=k→I a→st.h=hp a→st.tmps.length=len→jC st.tmps (pt a)→TodoSem P n m rnd [.inLoop c] st Q:=by
  intro k
  induction k using Nat.strongRecOn with
  | ind k ih =>
   intro a st hk i1 i2 i3 i4
   have hs:=step a (fun i=>st.tmps.getD (st.tmps.length - 1 - i) .junk) i1
   rw [van,FH.eq] at hs
   have e:zj (pt a) (fun i=>st.tmps.getD (st.tmps.length - 1 - i) .junk) len 0=st.tmps:=by rw [← i3];exact (qbe i4).symm
   rw [e,← i2] at hs
   refine xE ((uaj hT hm c st _ hs).mono fun e s hq => ?_)
   cases e with
   | normal =>
    obtain ⟨a',G,j1,j2,j3,j4,j5⟩:=hq
    obtain ⟨o1,o2,o3,o4⟩:=hside a' j2
    obtain ⟨ts,h⟩:=s
    simp only at j3 j4 j5
    subst j3
    refine ybD (ts':=zj (pt a') (fun _=>.junk) len 0) ⟨by rw [wac,j4],fun i x y hx hy => ?_⟩ (fun x hx => ?_) o3 o4
     (ih (mea a') (hk ▸ j1) a' ⟨_,hp a'⟩ rfl j2 rfl (wac _ _) (zbf o1 fun i x hx => ?_))
    ·rcases qW _ _ _ _ hx with h | ⟨_,h⟩
     ·rw [Nat.zero_add] at h
      have:=xad j5 _ _ h
      rw [hy] at this;injection this with this
      exact .inl this.symm
     ·exact .inr h
    ·obtain ⟨i,hi,rfl⟩:=List.getElem_of_mem hx
     rcases qW _ _ _ _ (List.getElem?_eq_getElem hi) with h | ⟨_,h⟩
     ·exact o2 (0 + i,_) (qaK h)
     ·rw [h];exact .junk
    ·have hlt:i < len:=by
      have:=xad j5 _ _ hx
      rw [← j4];exact (List.getElem?_eq_some_iff.1 this).1
     exact gbe _ _ _ _ (by rw [Nat.zero_add];exact hx) hlt
   | jump j=>exact hq
 exact key _ a st rfl h1 h2 h3 h4
end
end Go.Abs

namespace Go.Abs
noncomputable section
variable [Gl]
section iter
variable {P:Program}
theorem jaT {h:Heap} {l:Nat} {args:List AV} {K K':AV→Heap→Prop} (hk:∀ r h',K r h'→K' r h') (hc:uo P h (.yld l) args K):uo P h (.yld l) args K':=by
 simp only [uo] at hc ⊢
 exact ⟨hc.1,hc.2.mono hk⟩
theorem gM (L:List (Option jc)) (b:List (Option Blk)) (r:Option jc):(Heap.mk b (L ++ [r])).loop? L.length=r:=by
 simp [Heap.loop?]
theorem vE (L:List (Option jc)) (b:List (Option Blk)) (r r':Option jc):(Heap.mk b (L ++ [r])).setLoop L.length r'=Heap.mk b (L ++ [r']):=by
 simp [Heap.setLoop]
end iter
end
end Go.Abs
