/-
  Steps to a law of this program: AbsSem, AbsFlow, AbsOp, AbsCall.
  Conditions: none.
-/
import Derived.Test.YtpdnijifmebnbaaGreatDoorB0
import Derived.AtR
set_option linter.unusedVariables false
set_option linter.unusedSimpArgs false
set_option linter.unusedSectionVars false
namespace Go.Abs
noncomputable section
variable [Gl]
def one:Value→Bool
 | .agg _ | .tuple _=>false
 | _=>true
inductive Blk where
 | rows (rs:List (List AV)) (grown frozen:Bool)
 | mapb (es:List (AV × AV))
 deriving Inhabited
structure jc where
 state:LoopState
 pending:Option Code
 tmps:List AV
 params:Array Tmp
 assign:Code
 body:Code
 deriving Inhabited
structure Heap where
 blks:List (Option Blk)
 loops:List (Option jc)
 deriving Inhabited
structure St where
 tmps:List AV
 h:Heap
 deriving Inhabited
def Heap.blk? (h:Heap) (b:Nat):Option Blk:=(h.blks[b]?).join
def Heap.loop? (h:Heap) (l:Nat):Option jc:=(h.loops[l]?).join
structure j8 (E:Env) (w:World) (L:Loc) (rs:List (List AV)) (fz:Bool):Prop where
 lies:∃ arr el,w.heap[L.blk]? = some (.cells arr el (0,0))∧L.n=arr.size ∧
  ∀ (i:Nat) (hi:i < rs.length),i < L.len→∀ (j:Nat) (hj:j < rs[i].length),∃ v,arr[L.off + i * L.sz + j]? = some v∧VR E w rs[i][j] v∧one v=true
 len:L.len≤rs.length
 fits:L.off + L.len * L.sz≤L.n
 sz:∀ (i:Nat) (hi:i < rs.length),rs[i].length=L.sz
 own:fz=false→E.F L.blk
 free:fz=true→¬ E.F L.blk
structure RowsAt (E:Env) (w:World) (Ls:List Loc) (rs:List (List AV)) (g fz:Bool):Prop where
 one:g=false→∃ L,Ls=[L]
 now:∃ L∈Ls,L.len=rs.length
 all:∀ L∈Ls,j8 E w L rs fz
 apart:(Ls.map (·.blk)).Nodup
structure TR (E:Env) (w:World) (ts:List AV) (vs:Array Value):Prop where
 size:ts.length=vs.size
 val:∀ (i:Nat) (hi:i < ts.length) (hj:i < vs.size),VR E w ts[i] vs[i]
structure ycj (E:Env) (w:World) (o:Nat) (r:jc):Prop where
 lies:∃ ctmps defers fn,w.heap[o]? = some (.loop { state:=r.state,pending:=r.pending,fn,tmps:=ctmps,params:=r.params,assign:=r.assign,body:=r.body,defers })∧TR E w r.tmps ctmps
structure zcj (E:Env) (w:World) (Ls:List Loc) (es:List (AV × AV)):Prop where
 lies:∃ L ces clock,Ls=[L]∧E.F L.blk∧w.heap[L.blk]? = some (.map ces clock)∧es.length=ces.size ∧
  ∀ (i:Nat) (hi:i < es.length) (hj:i < ces.size),VR E w es[i].1 ces[i].key∧VR E w es[i].2 ces[i].val
def Blk.Lt (n m:Nat):Blk→Prop
 | .rows rs _ _=>∀ r∈rs,∀ x∈r,Abs.Lt n m x
 | .mapb es=>∀ e∈es,Abs.Lt n m e.1∧Abs.Lt n m e.2
structure Heap.Lt (h:Heap):Prop where
 blks:∀ b x,h.blk? b=some x→x.Lt h.blks.length h.loops.length
 loops:∀ l r,h.loop? l=some r→∀ x∈r.tmps,Abs.Lt h.blks.length h.loops.length x
def qf (F:Nat→Prop):Env:=⟨F,fun _=>none,fun _=>none⟩
def zf (E:Env) (B:Nat):Prop:=(∃ b Ls L,E.ρ b=some Ls∧L∈Ls∧L.blk=B)∨∃ l,E.lam l=some B
structure GlobOK (E:Env) (w:World):Prop where
 ok:∀ g row,Gl.gl g=some row→0 < row.length∧¬ E.F g∧¬ zf E g∧(∀ x∈row,Pure x)∧∃ arr el fr,w.heap[g]? = some (.cells arr el fr)∧arr.size=row.length ∧
  ∀ (i:Nat) (hi:i < row.length),∃ v,arr[i]? = some v∧VR (qf E.F) w row[i] v
structure HR (E:Env) (w:World) (h:Heap):Prop where
 dead:∀ b,h.blk? b=none→E.ρ b=none
 rows:∀ b rs g fz,h.blk? b=some (.rows rs g fz)→∃ Ls,E.ρ b=some Ls∧RowsAt E w Ls rs g fz
 maps:∀ b es,h.blk? b=some (.mapb es)→∃ Ls,E.ρ b=some Ls∧zcj E w Ls es
 apart:∀ b b' Ls Ls' L L',b≠b'→E.ρ b=some Ls→E.ρ b'=some Ls'→L∈Ls→L'∈Ls'→E.F L.blk→L.blk≠L'.blk
 deadl:∀ l,h.loop? l=none→E.lam l=none
 loops:∀ l r,h.loop? l=some r→∃ o,E.lam l=some o∧ycj E w o r
 lapart:∀ l l' o,E.lam l=some o→E.lam l'=some o→l=l'
 lt:h.Lt
 inside:∀ B,E.F B→B < w.heap.size
 globs:GlobOK E w
structure Ext (n m:Nat) (E:Env) (w:World) (E':Env) (w':World):Prop where
 keeps:Keeps n m E w E' w'
 size:w.heap.size≤w'.heap.size
 os:w'.os=w.os
 output:w'.output=w.output
 tape:w'.tape=w.tape
 same:∀ B,B < w.heap.size→¬ zf E B→w'.heap[B]? = w.heap[B]?
 F':∀ B,B < w.heap.size→E.F B→E'.F B∨zf E B
 foot':∀ B,B < w.heap.size→zf E' B→zf E B
omit [Gl] in
theorem uy {A B:Prop} (b:B) (f:B→A):A∧B:=⟨f b,b⟩
theorem GlobOK.ext {n m:Nat} {E E':Env} {w w':World} (x:Ext n m E w E' w') (g:GlobOK E w):GlobOK E' w' where
 ok b row hb:=by
  obtain ⟨h0,h1,h2,h3,arr,el,fr,h4,h5,h6⟩:=g.ok b row hb
  have hlt:b < w.heap.size:=by
   rcases Nat.lt_or_ge b w.heap.size with h | h
   ·exact h
   ·rw [Array.getElem?_eq_none h] at h4;cases h4
  have hF:¬ E'.F b:=by
   obtain ⟨v,v1,_⟩:=h6 0 h0
   exact (x.keeps.cells b 0 v h1 (by simp only [World.cell?,h4];exact v1)).1
  refine ⟨h0,hF,fun hf=>h2 (x.foot' b hlt hf),h3,arr,el,fr,(x.same b hlt h2).trans h4,h5,fun i hi => ?_⟩
  obtain ⟨v,v1,v2⟩:=h6 i hi
  have k:Keeps 0 0 (qf E.F) w (qf E'.F) w':=⟨x.keeps.cells,fun b hb=>by omega,fun l hl=>by omega⟩
  exact ⟨v,v1,VR.keep k v2 (h3 _ (List.getElem_mem hi))⟩
theorem GlobOK.stand {n m:Nat} {E:Env} {w w':World} (g:GlobOK E w) (hk:Keeps n m E w E w') (hs:∀ (B:Nat) (c:Array Value) el fr,w.heap[B]? = some (Obj.cells c el fr)→w'.heap[B]? = w.heap[B]?):GlobOK E w' where
 ok b row hb:=by
  obtain ⟨h0,h1,h2,h3,arr,el,fr,h4,h5,h6⟩:=g.ok b row hb
  refine ⟨h0,h1,h2,h3,arr,el,fr,(hs b arr el fr h4).trans h4,h5,fun i hi => ?_⟩
  obtain ⟨v,v1,v2⟩:=h6 i hi
  have k:Keeps 0 0 (qf E.F) w (qf E.F) w':=⟨hk.cells,fun b hb=>by omega,fun l hl=>by omega⟩
  exact ⟨v,v1,VR.keep k v2 (h3 _ (List.getElem_mem hi))⟩
theorem GlobOK.pen {E:Env} {w:World} (g:GlobOK E w) (F:Nat→Prop) (hF:∀ B,¬ E.F B→¬ F B):GlobOK (qf F) w where
 ok b row hb:=by
  obtain ⟨h0,h1,h2,h3,arr,el,fr,h4,h5,h6⟩:=g.ok b row hb
  refine ⟨h0,hF b h1,fun hf => ?_,h3,arr,el,fr,h4,h5,fun i hi => ?_⟩
  ·rcases hf with ⟨_,_,_,h,_⟩ | ⟨_,h⟩ <;> cases h
  ·obtain ⟨v,v1,v2⟩:=h6 i hi
   have k:Keeps 0 0 (qf E.F) w (qf F) w:=⟨fun B o v a b=>⟨hF B a,b⟩,fun b hb=>by omega,fun l hl=>by omega⟩
   exact ⟨v,v1,VR.keep k v2 (h3 _ (List.getElem_mem hi))⟩
omit [Gl] in
theorem Ext.refl (n m:Nat) (E:Env) (w:World):Ext n m E w E w :=
 ⟨.refl ..,Nat.le_refl _,rfl,rfl,rfl,fun _ _ _=>rfl,fun _ _ h=>.inl h,fun _ _ h=>h⟩
omit [Gl] in
theorem Ext.trans {n m n' m':Nat} {E1 E2 E3:Env} {w1 w2 w3:World} (hn:n≤n') (hm:m≤m') (a:Ext n m E1 w1 E2 w2) (b:Ext n' m' E2 w2 E3 w3):Ext n m E1 w1 E3 w3 where
 keeps:=a.keeps.trans hn hm b.keeps
 size:=Nat.le_trans a.size b.size
 os:=b.os.trans a.os
 output:=b.output.trans a.output
 tape:=b.tape.trans a.tape
 same B hB hf:=by
  have h2:¬ zf E2 B:=fun h=>hf (a.foot' B hB h)
  rw [b.same B (Nat.lt_of_lt_of_le hB a.size) h2,a.same B hB hf]
 F' B hB hF:=by
  rcases a.F' B hB hF with h | h
  ·rcases b.F' B (Nat.lt_of_lt_of_le hB a.size) h with h' | h'
   ·exact .inl h'
   ·exact .inr (a.foot' B hB h')
  ·exact .inr h
 foot' B hB hf:=a.foot' B hB (b.foot' B (Nat.lt_of_lt_of_le hB a.size) hf)
theorem Ext.mono {n m n' m':Nat} (hn:n≤n') (hm:m≤m') {E E':Env} {w w':World} (a:Ext n' m' E w E' w'):Ext n m E w E' w' :=
 (Ext.refl n m E w).trans hn hm a
structure DefOK (base:Nat) (E:Env) (w:World) (ds:List Deferred):Prop where
 marks:∃ rs:List Nat,ds=rs.map (fun r=>{ target:=.collected r,args := #[] })∧rs.Nodup ∧
  ∀ r∈rs,base≤r∧¬ zf E r∧w.heap[r]? = some (.deferred (some []))
structure StR (E:Env) (w:World) (st:St) (tmps:Array Value):Prop where
 heap:HR E w st.h
 tmps:TR E w st.tmps tmps
 lt:∀ x∈st.tmps,Lt st.h.blks.length st.h.loops.length x
omit [Gl] in
theorem TR.keep {n m:Nat} {E E':Env} {w w':World} (hk:Keeps n m E w E' w') {ts:List AV} {vs:Array Value} (h:TR E w ts vs) (hl:∀ x∈ts,Lt n m x):TR E' w' ts vs :=
 ⟨h.size,fun i hi hj=>(h.val i hi hj).keep hk (hl _ (List.getElem_mem hi))⟩
omit [Gl] in
theorem DefOK.ext {n m base:Nat} {E E':Env} {w w':World} (he:Ext n m E w E' w') {ds:List Deferred} (h:DefOK base E w ds):DefOK base E' w' ds:=by
 obtain ⟨rs,h1,h2,h3⟩:=h.marks
 refine ⟨rs,h1,h2,fun r hr => ?_⟩
 obtain ⟨ab,a,b⟩:=h3 r hr
 have hlt:r < w.heap.size:=by
  rcases Nat.lt_or_ge r w.heap.size with h | h
  ·exact h
  ·rw [Array.getElem?_eq_none h] at b;cases b
 exact ⟨ab,fun hf=>a (he.foot' r hlt hf),(he.same r hlt a).trans b⟩
inductive gb where
 | normal
 | jump (j:Code)
def fat (b:Frame) (tmps:Array Value) (ds:List Deferred) (todo:List Item):Frame :=
 { b with tmps,todo,defers:=ds,mode:=.run }
def Res:Code→List Item→Option (List Item)
 | .exit id,k=>exitTo id k
 | .goto l,k=>gotoIn l k
 | _,_=>none
def Arr (P:Program) (M:Machine) (b:Frame) (k:List Item) (cs:List Frame) (e:gb) (tmps:Array Value) (ds:List Deferred) (w:World):Prop :=
 match e with
 | .normal=>Steps P M (lone (fat b tmps ds k) cs w)
 | .jump j=>∃ todo,Steps P M (lone (fat b tmps ds (.code j :: todo)) cs w)∧Res j todo=Res j k
omit [Gl] in
theorem Arr.of_steps {P:Program} {M M1:Machine} {b:Frame} {k:List Item} {cs:List Frame} {e:gb} {tmps:Array Value} {ds:List Deferred} {w:World}
  (h:Steps P M M1) (h':Arr P M1 b k cs e tmps ds w):Arr P M b k cs e tmps ds w:=by
 cases e with
 | normal=>exact h.trans h'
 | jump j=>obtain ⟨todo,hs,hr⟩:=h';exact ⟨todo,h.trans hs,hr⟩
def RndOK (m:Nat) (E:Env) (b:Frame):Option Nat→Prop
 | none=>b.roundOf=none
 | some l=>l < m∧∃ o,b.roundOf=some o∧∀ o',E.lam l=some o'→o'=o
omit [Gl] in
theorem RndOK.ext {n m:Nat} {E E':Env} {w w':World} {b:Frame} {rnd:Option Nat} (he:Ext n m E w E' w') (h:RndOK m E b rnd):RndOK m E' b rnd:=by
 cases rnd with
 | none=>exact h
 | some l=>obtain ⟨h1,o,h2,h3⟩:=h;exact ⟨h1,o,h2,fun o' ho'=>h3 o' (he.keeps.loops l h1 o' ho')⟩
structure TodoSem (P:Program) (n m:Nat) (rnd:Option Nat) (items:List Item) (st:St) (Q:gb→St→Prop):Prop where
 run:∀ (b:Frame) (E:Env) (w:World) (tmps:Array Value) (ds:List Deferred) (base:Nat),StR E w st tmps→DefOK base E w ds→base≤w.heap.size→RndOK m E b rnd→n≤st.h.blks.length→m≤st.h.loops.length →
  ∀ (k:List Item) (cs:List Frame),∃ e st' E' w' tmps' ds',Q e st'∧StR E' w' st' tmps'∧DefOK base E' w' ds'∧Ext n m E w E' w'∧n≤st'.h.blks.length∧m≤st'.h.loops.length ∧
   Arr P (lone (fat b tmps ds (items ++ k)) cs w) b k cs e tmps' ds' w'
section rules
variable {P:Program} {n m:Nat} {rnd:Option Nat} {st:St} {Q:gb→St→Prop}
theorem TodoSem.mono {items:List Item} {Q':gb→St→Prop} (h:TodoSem P n m rnd items st Q) (hq:∀ e s,Q e s→Q' e s):TodoSem P n m rnd items st Q' :=
 ⟨fun b E w tmps ds base h1 h2 hb h3 h4 h5 k cs=>by
  obtain ⟨e,st',E',w',tmps',ds',q,rest⟩:=h.run b E w tmps ds base h1 h2 hb h3 h4 h5 k cs
  exact ⟨e,st',E',w',tmps',ds',hq _ _ q,rest⟩⟩
theorem jay (h:Q .normal st):TodoSem P n m rnd [] st Q :=
 ⟨fun b E w tmps ds base h1 h2 _ _ h4 h5 k cs=>⟨.normal,st,E,w,tmps,ds,h,h1,h2,.refl ..,h4,h5,.refl ..⟩⟩
theorem vL {items items':List Item} (hs:∀ (b:Frame) (tmps:Array Value) (ds:List Deferred) (k:List Item) (cs:List Frame) (w:World) (E:Env),TR E w st.tmps tmps →
   step P (lone (fat b tmps ds (items ++ k)) cs w)=.next (lone (fat b tmps ds (items' ++ k)) cs w))
  (h:TodoSem P n m rnd items' st Q):TodoSem P n m rnd items st Q :=
 ⟨fun b E w tmps ds base h1 h2 hb h3 h4 h5 k cs=>by
  obtain ⟨e,st',E',w',tmps',ds',q,r1,r2,r3,r4,r5,r6⟩:=h.run b E w tmps ds base h1 h2 hb h3 h4 h5 k cs
  exact ⟨e,st',E',w',tmps',ds',q,r1,r2,r3,r4,r5,.of_steps (.one (hs b tmps ds k cs w E h1.tmps)) r6⟩⟩
def vG (next:St→Prop) (Q:gb→St→Prop):gb→St→Prop
 | .normal,s=>next s
 | .jump j,s=>Q (.jump j) s
def Item.pass:Item→Bool
 | .inBlock _ | .inScope _=>false
 | _=>true
omit [Gl] in
theorem gci {x:Item} (hx:Item.pass x=true) (j:Code) (k:List Item):Res j (x :: k)=Res j k:=by
 cases j <;> simp only [Res] <;> cases x <;> simp_all [Item.pass,exitTo,gotoIn]
theorem qby:∀ {xs:List Item} (_:xs.all Item.pass=true) (j:Code) (k:List Item),Res j (xs ++ k)=Res j k
 | [],_,_,_=>rfl
 | x :: xs,h,j,k=>by
  simp only [List.all_cons,Bool.and_eq_true] at h
  rw [List.cons_append,gci h.1,qby h.2]
theorem uL {xs ys:List Item} (hy:ys.all Item.pass=true) (h:TodoSem P n m rnd xs st (vG (fun s=>TodoSem P n m rnd ys s Q) Q)):TodoSem P n m rnd (xs ++ ys) st Q :=
 ⟨fun b E w tmps ds base h1 h2 hb h3 h4 h5 k cs=>by
  obtain ⟨e,s,E1,w1,t1,d1,q,r1,r2,r3,r4,r5,r6⟩:=h.run b E w tmps ds base h1 h2 hb h3 h4 h5 (ys ++ k) cs
  rw [← List.append_assoc] at r6
  cases e with
  | normal =>
   obtain ⟨e2,s2,E2,w2,t2,d2,q2,s1,s2',s3,s4,s5,s6⟩:=TodoSem.run q b E1 w1 t1 d1 base r1 r2 (Nat.le_trans hb r3.size) (h3.ext r3) r4 r5 k cs
   exact ⟨e2,s2,E2,w2,t2,d2,q2,s1,s2',r3.trans (Nat.le_refl _) (Nat.le_refl _) s3,s4,s5,.of_steps r6 s6⟩
  | jump j =>
   obtain ⟨todo,hs,hr⟩:=r6
   exact ⟨.jump j,s,E1,w1,t1,d1,q,r1,r2,r3,r4,r5,todo,hs,hr.trans (qby hy j k)⟩⟩
omit [Gl] in
theorem TR.getD {E:Env} {w:World} {ts:List AV} {vs:Array Value} (h:TR E w ts vs) (t:Nat):VR E w (ts.getD t .junk) (vs.getD t undef):=by
 rcases Nat.lt_or_ge t ts.length with hl | hl
 ·have hv:t < vs.size:=h.size ▸ hl
  have:=h.val t hl hv
  simpa [List.getD,List.getElem?_eq_getElem hl,Array.getD,hv] using this
 ·have:ts.getD t .junk=.junk:=by simp [List.getD,List.getElem?_eq_none hl]
  rw [this];exact .junk _
end rules
end
end Go.Abs

namespace Go.Abs
noncomputable section
variable [Gl]
def ofV:Value→AV
 | .bool b=>.bool b
 | .int k n=>.int k n
 | .string s=>.str s.data.toList
 | .pointer none=>.nilp
 | .slice none 0 0=>.nils
 | .nilFunc=>.nilf
 | .nilIface=>.nili
 | .map none=>.nilm
 | _=>.junk
omit [Gl] in
theorem gao (E:Env) (w:World) (v:Value):VR E w (ofV v) v:=by
 unfold ofV
 split <;> first | exact .junk _ | exact .bool _ | exact .int _ _ | exact .nilp | exact .nils | exact .nilf | exact .nili | exact .nilm | skip
 rename_i s
 have:VR E w (.str s.data.toList) (.string ⟨s.data.toList.toArray⟩):=.str _
 simpa using this
omit [Gl] in
theorem xaI (n m:Nat) (v:Value):Lt n m (ofV v):=by
 unfold ofV
 split <;> first | exact .junk | exact .bool _ | exact .int _ _ | exact .str _ | exact .nilp | exact .nils | exact .nilf | exact .nili | exact .nilm
def St.ev (s:St):Operand→AV
 | .tmp t=>s.tmps.getD t .junk
 | .const v=>ofV v
 | .global g=>.gp g 0
 | .func f=>.fn (.func f) [] []
omit [Gl] in
theorem xaR {E:Env} {w:World} {st:St} {tmps:Array Value} (h:TR E w st.tmps tmps) (b:Frame) (ds:List Deferred) (todo:List Item) (x:Operand) :
  VR E w (st.ev x) ((fat b tmps ds todo).eval x):=by
 cases x with
 | tmp t=>exact h.getD t
 | const v=>exact gao _ _ _
 | global g=>exact .gp g 0
 | func f=>exact .fn _ _ _ _ _ rfl rfl (fun i hi=>by simp at hi) (fun i hi=>by simp at hi)
omit [Gl] in
theorem yag {n m:Nat} {st:St} (h:∀ x∈st.tmps,Lt n m x) (x:Operand):Lt n m (st.ev x):=by
 cases x with
 | tmp t =>
  simp only [St.ev,List.getD]
  cases ht:st.tmps[t]? with
  | none=>exact .junk
  | some v=>exact h v (List.mem_of_getElem? ht)
 | const v=>exact xaI _ _ _
 | global g=>exact .gp g 0
 | func f=>exact .fn _ _ _ (fun i hi=>by simp at hi) (fun i hi=>by simp at hi)
section steps
variable {P:Program} {b:Frame} {tmps:Array Value} {ds:List Deferred} {k:List Item} {cs:List Frame} {w:World}
omit [Gl] in
theorem jbF:step P (lone (fat b tmps ds (.code .skip :: k)) cs w)=.next (lone (fat b tmps ds k) cs w) :=
 step_lone_go (by simp [stepG,stepG.exec,fat])
omit [Gl] in
theorem wbG {l:Nat}:step P (lone (fat b tmps ds (.code (.label l) :: k)) cs w)=.next (lone (fat b tmps ds k) cs w) :=
 step_lone_go (by simp [stepG,stepG.exec,fat])
omit [Gl] in
theorem ubG {id:Nat}:step P (lone (fat b tmps ds (.inBlock id :: k)) cs w)=.next (lone (fat b tmps ds k) cs w) :=
 step_lone_go (by simp [stepG,stepG.exec,fat])
omit [Gl] in
theorem vbG {c:Code}:step P (lone (fat b tmps ds (.inScope c :: k)) cs w)=.next (lone (fat b tmps ds k) cs w) :=
 step_lone_go (by simp [stepG,stepG.exec,fat])
omit [Gl] in
theorem qbF {x y:Code}:step P (lone (fat b tmps ds (.code (.seq x y) :: k)) cs w)=.next (lone (fat b tmps ds (.code x :: .code y :: k)) cs w) :=
 step_lone_go (by simp [stepG,stepG.exec,fat])
omit [Gl] in
theorem gbG {c:Operand} {x y:Code} {t:Bool} (h:(fat b tmps ds (.code (.cond c x y) :: k)).eval c=.bool t) :
  step P (lone (fat b tmps ds (.code (.cond c x y) :: k)) cs w)=.next (lone (fat b tmps ds (.code (if t then x else y) :: k)) cs w) :=
 step_lone_go (by
  simp only [fat] at h
  simp [stepG,stepG.exec,fat,h])
omit [Gl] in
theorem zbH {id:Nat} {c:Code}:step P (lone (fat b tmps ds (.code (.block id c) :: k)) cs w)=.next (lone (fat b tmps ds (.code c :: .inBlock id :: k)) cs w) :=
 step_lone_go (by simp [stepG,stepG.exec,fat])
omit [Gl] in
theorem xbG {c:Code}:step P (lone (fat b tmps ds (.code (.loop c) :: k)) cs w)=.next (lone (fat b tmps ds (.code c :: .inLoop c :: k)) cs w) :=
 step_lone_go (by simp [stepG,stepG.exec,fat])
omit [Gl] in
theorem ja2 {c:Code}:step P (lone (fat b tmps ds (.inLoop c :: k)) cs w)=.next (lone (fat b tmps ds (.code c :: .inLoop c :: k)) cs w) :=
 step_lone_go (by simp [stepG,stepG.exec,fat])
omit [Gl] in
theorem gbF {c:Code}:step P (lone (fat b tmps ds (.code (.scope c) :: k)) cs w)=.next (lone (fat b tmps ds (.code c :: .inScope c :: k)) cs w) :=
 step_lone_go (by simp [stepG,stepG.exec,fat])
omit [Gl] in
theorem qbG {id:Nat} {k':List Item} (h:exitTo id k=some k'):step P (lone (fat b tmps ds (.code (.exit id) :: k)) cs w)=.next (lone (fat b tmps ds k') cs w) :=
 step_lone_go (by simp [stepG,stepG.exec,fat,h])
omit [Gl] in
theorem jbG {l:Nat} {k':List Item} (h:gotoIn l k=some k'):step P (lone (fat b tmps ds (.code (.goto l) :: k)) cs w)=.next (lone (fat b tmps ds k') cs w) :=
 step_lone_go (by simp [stepG,stepG.exec,fat,h])
omit [Gl] in
theorem ybG {id:Nat} {ops:Array Oper}:step P (lone (fat b tmps ds (.code (.region id ops false) :: k)) cs w)=.next (lone (fat b tmps ds (.inRegion ops (List.range ops.size) :: k)) cs w) :=
 step_lone_go (by simp [stepG,stepG.exec,fat])
omit [Gl] in
theorem zbG {ops:Array Oper}:step P (lone (fat b tmps ds (.inRegion ops [] :: k)) cs w)=.next (lone (fat b tmps ds k) cs w) :=
 step_lone_go (by simp [stepG,stepG.exec,fat])
end steps
section rules
variable {P:Program} {n m:Nat} {rnd:Option Nat} {st:St} {Q:gb→St→Prop}
theorem uaA (h:Q .normal st):TodoSem P n m rnd [.code .skip] st Q :=
 vL (items':=[]) (fun _ _ _ _ _ _ _ _=>jbF) (jay h)
theorem qaA {l:Nat} (h:Q .normal st):TodoSem P n m rnd [.code (.label l)] st Q :=
 vL (items':=[]) (fun _ _ _ _ _ _ _ _=>wbG) (jay h)
theorem gU (j:Code) (hj:(match j with | .exit _ | .goto _ | .ret=>True | _=>False)) (h:Q (.jump j) st):TodoSem P n m rnd [.code j] st Q :=
 ⟨fun b E w tmps ds base h1 h2 _ _ h4 h5 k cs=>⟨.jump j,st,E,w,tmps,ds,h,h1,h2,.refl ..,h4,h5,k,.refl ..,rfl⟩⟩
theorem qU {x y:Code} (h:TodoSem P n m rnd [.code x] st (vG (fun s=>TodoSem P n m rnd [.code y] s Q) Q)):TodoSem P n m rnd [.code (.seq x y)] st Q :=
 vL (items':=[.code x,.code y]) (fun _ _ _ _ _ _ _ _=>qbF) (uL (xs:=[.code x]) rfl h)
theorem zal {c:Operand} {x y:Code} {t:Bool} (hc:st.ev c=.bool t) (h:TodoSem P n m rnd [.code (if t then x else y)] st Q):TodoSem P n m rnd [.code (.cond c x y)] st Q :=
 vL (items':=[.code (if t then x else y)]) (fun b tmps ds k cs w E ht=>gbG (by
  show (fat b tmps ds (.code (.cond c x y) :: k)).eval c=.bool t
  have:=xaR ht b ds (.code (.cond c x y) :: k) c
  rw [hc] at this
  revert this
  generalize (fat b tmps ds (.code (.cond c x y) :: k)).eval c=v
  intro this
  cases this;rfl)) h
theorem xE {c:Code} (h:TodoSem P n m rnd [.code c] st (vG (fun s=>TodoSem P n m rnd [.inLoop c] s Q) Q)):TodoSem P n m rnd [.inLoop c] st Q :=
 vL (items':=[.code c,.inLoop c]) (fun _ _ _ _ _ _ _ _=>ja2) (uL (xs:=[.code c]) rfl h)
theorem za2 {c:Code} (h:TodoSem P n m rnd [.inLoop c] st Q):TodoSem P n m rnd [.code (.loop c)] st Q :=
 ⟨fun b E w tmps ds base h1 h2 hb h3 h4 h5 k cs=>by
  obtain ⟨e,st',E',w',tmps',ds',q,r1,r2,r3,r4,r5,r6⟩:=h.run b E w tmps ds base h1 h2 hb h3 h4 h5 k cs
  refine ⟨e,st',E',w',tmps',ds',q,r1,r2,r3,r4,r5,?_⟩
  have e1:=xbG (P:=P) (b:=b) (tmps:=tmps) (ds:=ds) (c:=c) (k:=k) (cs:=cs) (w:=w)
  have e2:=ja2 (P:=P) (b:=b) (tmps:=tmps) (ds:=ds) (c:=c) (k:=k) (cs:=cs) (w:=w)
  cases e with
  | normal =>
   obtain ⟨N,hN⟩:=r6
   cases N with
   | zero =>
    simp only [runN] at hN
    have hf:fat b tmps ds ([Item.inLoop c] ++ k)=fat b tmps' ds' k:=by
     have:=congrArg (fun s=>match s with | Stepped.next mm=>mm.gs | _ => #[]) hN
     simp [lone] at this
     exact this
    have:([Item.inLoop c] ++ k)=k:=congrArg Frame.todo hf
    have:=congrArg List.length this
    simp at this
   | succ N=>exact ⟨N + 1,by simp only [runN,List.cons_append,List.nil_append] at hN ⊢;rw [e2] at hN;rw [e1];exact hN⟩
  | jump j =>
   obtain ⟨todo,⟨N,hN⟩,hr⟩:=r6
   refine ⟨todo,?_,hr⟩
   cases N with
   | zero =>
    simp only [runN] at hN
    have hf:fat b tmps ds ([Item.inLoop c] ++ k)=fat b tmps' ds' (.code j :: todo):=by
     have:=congrArg (fun s=>match s with | Stepped.next mm=>mm.gs | _ => #[]) hN
     simp [lone] at this
     exact this
    have:=congrArg Frame.todo hf
    simp [fat] at this
   | succ N=>exact ⟨N + 1,by simp only [runN,List.cons_append,List.nil_append] at hN ⊢;rw [e2] at hN;rw [e1];exact hN⟩⟩
def gK (id:Nat) (Q:gb→St→Prop):gb→St→Prop
 | .jump (.exit id'),s=>if id'=id then Q .normal s else Q (.jump (.exit id')) s
 | e,s=>Q e s
theorem yal {id:Nat} {c:Code} (h:TodoSem P n m rnd [.code c] st (gK id Q)):TodoSem P n m rnd [.code (.block id c)] st Q :=
 ⟨fun b E w tmps ds base h1 h2 hb h3 h4 h5 k cs=>by
  obtain ⟨e,s,E1,w1,t1,d1,q,r1,r2,r3,r4,r5,r6⟩:=h.run b E w tmps ds base h1 h2 hb h3 h4 h5 (.inBlock id :: k) cs
  have h0:Steps P (lone (fat b tmps ds ([.code (.block id c)] ++ k)) cs w) (lone (fat b tmps ds ([.code c] ++ .inBlock id :: k)) cs w):=.one zbH
  cases e with
  | normal=>exact ⟨.normal,s,E1,w1,t1,d1,q,r1,r2,r3,r4,r5,h0.trans (Steps.trans r6 (.one ubG))⟩
  | jump j =>
   obtain ⟨todo,hs,hr⟩:=r6
   have go:∀ (_:Q (.jump j) s) (_:Res j (.inBlock id :: k)=Res j k),∃ e st' E' w' tmps' ds',Q e st'∧StR E' w' st' tmps'∧DefOK base E' w' ds'∧Ext n m E w E' w'∧n≤st'.h.blks.length∧m≤st'.h.loops.length ∧
     Arr P (lone (fat b tmps ds ([.code (.block id c)] ++ k)) cs w) b k cs e tmps' ds' w' :=
    fun q e=>⟨.jump j,s,E1,w1,t1,d1,q,r1,r2,r3,r4,r5,todo,h0.trans hs,hr.trans e⟩
   cases j with
   | exit id' =>
    by_cases hid:id'=id
    ·simp only [gK,hid,if_true] at q
     refine ⟨.normal,s,E1,w1,t1,d1,q,r1,r2,r3,r4,r5,h0.trans (hs.trans (.one (qbG ?_)))⟩
     have:exitTo id' todo=exitTo id' (.inBlock id :: k):=hr
     rw [this];simp [exitTo,hid]
    ·simp only [gK,hid,if_false] at q
     refine go q ?_
     have:(id == id')=false:=by simp;exact fun h=>hid h.symm
     simp [Res,exitTo,this]
   | goto l=>exact go q (by simp [Res,gotoIn])
   | _=>exact go q rfl⟩
def uD (P:Program) (n m:Nat) (rnd:Option Nat) (c:Code) (Q:gb→St→Prop):gb→St→Prop
 | .jump (.goto l),s=>match findLabel c l with
  | some rest=>TodoSem P n m rnd [.code rest,.inScope c] s Q
  | none=>Q (.jump (.goto l)) s
 | e,s=>Q e s
theorem zV {c x:Code} (h:TodoSem P n m rnd [.code x] st (uD P n m rnd c Q)):TodoSem P n m rnd [.code x,.inScope c] st Q :=
 ⟨fun b E w tmps ds base h1 h2 hb h3 h4 h5 k cs=>by
  obtain ⟨e,s,E1,w1,t1,d1,q,r1,r2,r3,r4,r5,r6⟩:=h.run b E w tmps ds base h1 h2 hb h3 h4 h5 (.inScope c :: k) cs
  simp only [List.cons_append,List.nil_append] at r6 ⊢
  cases e with
  | normal=>exact ⟨.normal,s,E1,w1,t1,d1,q,r1,r2,r3,r4,r5,Steps.trans r6 (.one vbG)⟩
  | jump j =>
   obtain ⟨todo,hs,hr⟩:=r6
   cases j with
   | goto l =>
    have hr':gotoIn l todo=gotoIn l (.inScope c :: k):=hr
    simp only [uD] at q
    cases hf:findLabel c l with
    | none =>
     simp only [hf] at q
     exact ⟨.jump (.goto l),s,E1,w1,t1,d1,q,r1,r2,r3,r4,r5,todo,hs,by rw [hr];simp [Res,gotoIn,hf]⟩
    | some rest =>
     simp only [hf] at q
     obtain ⟨e2,s2,E2,w2,t2,d2,q2,s1,s2',s3,s4,s5,s6⟩:=q.run b E1 w1 t1 d1 base r1 r2 (Nat.le_trans hb r3.size) (h3.ext r3) r4 r5 k cs
     refine ⟨e2,s2,E2,w2,t2,d2,q2,s1,s2',r3.trans (Nat.le_refl _) (Nat.le_refl _) s3,s4,s5,.of_steps (hs.trans (.one (jbG ?_))) s6⟩
     rw [hr'];simp [gotoIn,hf]
   | exit id=>exact ⟨.jump (.exit id),s,E1,w1,t1,d1,q,r1,r2,r3,r4,r5,todo,hs,by rw [hr];simp [Res,exitTo]⟩
   | _=>exact ⟨.jump _,s,E1,w1,t1,d1,q,r1,r2,r3,r4,r5,todo,hs,hr⟩⟩
theorem ja1 {c:Code} (h:TodoSem P n m rnd [.code c,.inScope c] st Q):TodoSem P n m rnd [.code (.scope c)] st Q :=
 vL (items':=[.code c,.inScope c]) (fun _ _ _ _ _ _ _ _=>gbF) h
end rules
end
end Go.Abs

namespace Go.Abs
noncomputable section
variable [Gl]
def yi (ts:List AV) (d:Option Tmp) (x:AV):List AV :=
 match d with
 | some d=>ts.set d x
 | none=>ts
omit [Gl] in
theorem TR.put {E:Env} {w:World} {ts:List AV} {vs:Array Value} (h:TR E w ts vs) (d:Option Tmp) {x:AV} {v:Value} (hx:VR E w x v) :
  TR E w (yi ts d x) ((Act.put ⟨vs,[]⟩ d v).tmps):=by
 cases d with
 | none=>exact h
 | some d =>
  refine ⟨by simp [yi,Act.put,h.size],fun i hi hj => ?_⟩
  simp only [yi,Act.put,List.length_set,Array.size_setIfInBounds] at hi hj ⊢
  rw [List.getElem_set,Array.getElem_setIfInBounds hj]
  split
  ·exact hx
  ·exact h.val i hi hj
omit [Gl] in
theorem xaK {n m:Nat} {ts:List AV} (h:∀ x∈ts,Lt n m x) (d:Option Tmp) {x:AV} (hx:Lt n m x):∀ y∈yi ts d x,Lt n m y:=by
 cases d with
 | none=>exact h
 | some d =>
  intro y hy
  rcases List.mem_or_eq_of_mem_set hy with h' | h'
  ·exact h y h'
  ·exact h' ▸ hx
def cev (tmps:Array Value):Operand→Value:=Act.eval ⟨tmps,[]⟩
theorem xe {E:Env} {w:World} {st:St} {tmps:Array Value} (h:TR E w st.tmps tmps) (x:Operand):VR E w (st.ev x) (cev tmps x):=by
 have:=xaR h default [] [] x
 cases x <;> exact this
structure y9 (P:Program) (c:Frame) (cs:List Frame) (s:Sem Next):Prop where
 step:∀ w,stepG P true { frame:=c,callers:=cs,status:=.running,dying:=none } w=stepG.apply P true c cs none s w
 plain:∀ d r s' k,c.todo≠.call d true r s' :: k
omit [Gl] in
theorem vaw {P:Program} {c:Frame} {cs:List Frame} {s:Sem Next} (h:y9 P c cs s) {w w':World} {v:Value} (hr:s.run P w=.ok (.value v) w') :
  step P (lone c cs w)=.next (lone (c.finish v) cs w') :=
 step_lone_go (by rw [h.step];simp [stepG.apply,Sem.runT_eq,hr])
omit [Gl] in
theorem uaw {P:Program} {c:Frame} {cs:List Frame} {s:Sem Next} (h:y9 P c cs s) {w w':World} (hr:s.run P w=.ok .skip w') :
  step P (lone c cs w)=.next (lone (c.finish undef) cs w') :=
 step_lone_go (by rw [h.step];simp [stepG.apply,Sem.runT_eq,hr])
omit [Gl] in
theorem ycg {P:Program} {c:Frame} {cs:List Frame} {s:Sem Next} (h:y9 P c cs s) {w w':World} {f:FuncId} {args:Array Value} (hr:s.run P w=.ok (.enter f args) w') :
  step P (lone c cs w)=.next (lone (Frame.enter P f args .normal) (c :: cs) w'):=by
 have hk:(match c.todo with | .call _ true _ _ :: _=>CallKind.wrapped | _=>CallKind.normal)=.normal:=by
  split
  ·rename_i hx;exact absurd hx (h.plain _ _ _ _)
  ·rfl
 refine step_lone_go ?_
 rw [h.step]
 simp only [stepG.apply,Sem.runT_eq,hr,if_true,GStep.bare_after]
 exact congrArg (fun kd=>GStep.go { frame:=Frame.enter P f args kd,callers:=c :: cs,status:=.running,dying:=none } w') hk
omit [Gl] in
theorem zcg {P:Program} {c:Frame} {cs:List Frame} {s:Sem Next} (h:y9 P c cs s) {w w':World} {l:Nat} {f:FuncId} {tmps:Array Value} {as body:Code} (hr:s.run P w=.ok (.round l f tmps as body) w') :
  step P (lone c cs w)=.next (lone (Frame.round l f tmps as body .normal) (c :: cs) w') :=
 step_lone_go (by rw [h.step];simp [stepG.apply,Sem.runT_eq,hr])
structure GivesSem (P:Program) (h:Heap) (s:World→Env→Sem Next→Prop) (K:AV→Heap→Prop):Prop where
 run:∀ (E:Env) (w:World) (t:Sem Next),HR E w h→s w E t→∀ (c:Frame) (cs:List Frame),y9 P c cs t →
  ∃ r h' E' w' v,K r h'∧VR E' w' r v∧HR E' w' h'∧Lt h'.blks.length h'.loops.length r∧h.blks.length≤h'.blks.length∧h.loops.length≤h'.loops.length ∧
   Ext h.blks.length h.loops.length E w E' w'∧Steps P (lone c cs w) (lone (c.finish v) cs w')
def zbz (P:Program) (o:Oper) (st:St) (K:AV→Heap→Prop):Prop :=
 (∀ c,o.op≠.defer c)∧(∀ x∈st.tmps,Lt st.h.blks.length st.h.loops.length x) →
 GivesSem P st.h (fun w E t=>∃ tmps,TR E w st.tmps tmps∧t=execOp (cev tmps) o) K
theorem GivesSem.mono {P:Program} {h:Heap} {s:World→Env→Sem Next→Prop} {K K':AV→Heap→Prop} (g:GivesSem P h s K) (hk:∀ r h',K r h'→K' r h'):GivesSem P h s K' :=
 ⟨fun E w t h1 h2 c cs h3=>by obtain ⟨r,h',E',w',v,k,rest⟩:=g.run E w t h1 h2 c cs h3;exact ⟨r,h',E',w',v,hk _ _ k,rest⟩⟩
theorem gae {P:Program} {h:Heap} {s:World→Env→Sem Next→Prop} {K:AV→Heap→Prop} {r:AV}
  (hr:∀ E w t,HR E w h→s w E t→∃ v,(t.run P w=.ok (.value v) w∨(t.run P w=.ok .skip w∧v=undef))∧VR E w r v) (hl:Lt h.blks.length h.loops.length r) (hk:K r h):GivesSem P h s K :=
 ⟨fun E w t h1 h2 c cs h3=>by
  obtain ⟨v,hv,hvr⟩:=hr E w t h1 h2
  refine ⟨r,h,E,w,v,hk,hvr,h1,hl,Nat.le_refl _,Nat.le_refl _,.refl ..,.one ?_⟩
  rcases hv with hv | ⟨hv,rfl⟩
  ·exact vaw h3 hv
  ·exact uaw h3 hv⟩
section region
variable {P:Program} {n m:Nat} {rnd:Option Nat} {st:St} {Q:gb→St→Prop} {ops:Array Oper}
omit [Gl] in
theorem yb8 (b:Frame) (tmps:Array Value) (ds:List Deferred) (todo:List Item):fat b tmps ds todo=b.atR ⟨tmps,ds⟩ todo:=rfl
theorem gb7 (b:Frame) (tmps:Array Value) (ds:List Deferred) (i:Nat) (rest:List Nat) (k:List Item) (v:Value) :
  (fat b tmps ds (.inRegion ops (i :: rest) :: k)).finish v=fat b (Act.put ⟨tmps,[]⟩ ((ops[i]?).bind (·.dst)) v).tmps ds (.inRegion ops rest :: k):=by
 rw [yb8,Frame.finish_atR]
 cases (ops[i]?).bind (·.dst) <;> rfl
def yg (ops:Array Oper) (ts:List AV) (o:Oper):Option Bool :=
 match o.guard with
 | none=>some true
 | some (j,want) =>
  match (ops[j]?).bind (·.dst) with
  | none=>none
  | some d=>match ts.getD d .junk with
   | .bool b=>some (b == want)
   | .tup []=>some false
   | _=>none
omit [Gl] in
theorem VR.bool_inv {E:Env} {w:World} {b:Bool} {v:Value} (h:VR E w (.bool b) v):v=.bool b:=by cases h;rfl
theorem vbm {E:Env} {w:World} {ts:List AV} {tmps:Array Value} (h:TR E w ts tmps) {o:Oper} {g:Bool} (hg:yg ops ts o=some g) :
  Region.wanted o (yielded ops tmps)=g:=by
 unfold yg at hg
 unfold Region.wanted
 split at hg
 ·rename_i ho
  injection hg with hg
  rw [ho];exact hg
 ·rename_i j want ho
  rw [ho]
  split at hg
  ·cases hg
  ·rename_i d hd
   split at hg
   ·rename_i b hx
    have hv:=h.getD d
    rw [hx] at hv
    have this:=hv.bool_inv
    have hsz:d < tmps.size:=by
     rcases Nat.lt_or_ge d tmps.size with h | h
     ·exact h
     ·exfalso
      have e:tmps.getD d undef=undef:=by simp [Array.getD,Nat.not_lt.2 h]
      rw [e] at this
      exact Value.noConfusion this
    have e:tmps[d]? = some (.bool b):=by
     simp only [Array.getD,hsz,dif_pos] at this
     rw [Array.getElem?_eq_getElem hsz]
     exact congrArg some this
    have ey:yielded ops tmps j=some b:=by
     simp only [yielded,hd,Option.bind_some,e]
    have hg':(b == want)=g:=Option.some.inj hg
    show (yielded ops tmps j == some want)=g
    rw [ey,← hg']
    rfl
   ·rename_i hx
    injection hg with hg;subst hg
    have hv:=h.getD d
    rw [hx] at hv
    have hne:∀ b,tmps[d]? ≠ some (.bool b):=fun b e=>by
     have e2:tmps.getD d undef=.bool b:=by
      obtain ⟨hd,e⟩:=Array.getElem?_eq_some_iff.1 e
      simp [Array.getD,hd,e]
     rw [e2] at hv
     cases hv
    have ey:yielded ops tmps j=none:=by
     unfold yielded
     rw [hd,Option.bind_some]
     cases e3:tmps[d]? with
     | none=>rfl
     | some v=>cases v <;> first | rfl | exact absurd e3 (hne _)
    show (yielded ops tmps j == some want)=false
    rw [ey]
    cases want <;> rfl
   ·cases hg
theorem xak {i:Nat} {rest:List Nat} {o:Oper} (ho:ops[i]? = some o) (hg:yg ops st.tmps o=some false)
  (h:TodoSem P n m rnd [.inRegion ops rest] { st with tmps:=yi st.tmps o.dst (.tup []) } Q):TodoSem P n m rnd [.inRegion ops (i :: rest)] st Q :=
 ⟨fun b E w tmps ds base h1 h2 hb h3 h4 h5 k cs=>by
  have hw:=vbm h1.tmps hg
  have h1':StR E w { st with tmps:=yi st.tmps o.dst (.tup []) } (Act.put ⟨tmps,[]⟩ o.dst undef).tmps :=
   ⟨h1.heap,h1.tmps.put o.dst (.tup [] #[] rfl fun i hi=>by simp at hi),xaK h1.lt o.dst (.tup [] fun i hi=>by simp at hi)⟩
  obtain ⟨e,st',E',w',tmps',ds',q,r1,r2,r3,r4,r5,r6⟩:=h.run b E w _ ds base h1' h2 hb h3 h4 h5 k cs
  refine ⟨e,st',E',w',tmps',ds',q,r1,r2,r3,r4,r5,.of_steps (.one ?_) r6⟩
  have hs:=stepR_op_skip (P:=P) (b:=b) (a:=⟨tmps,ds⟩) (k:=k) (cs:=cs) (w:=w) (ops:=ops) (i:=i) (rest:=rest) (by simp [ho,hw])
  have e1:(Act.put ⟨tmps,ds⟩ ((ops[i]?).bind (·.dst)) undef)=⟨(Act.put ⟨tmps,[]⟩ o.dst undef).tmps,ds⟩:=by
   simp only [ho,Option.bind_some];cases o.dst <;> rfl
  rw [e1] at hs
  exact hs⟩
theorem wak {i:Nat} {rest:List Nat} {o:Oper} (ho:ops[i]? = some o) (hg:yg ops st.tmps o=some true) (hd:∀ c,o.op≠.defer c)
  (h:zbz P o st (fun r h'=>TodoSem P n m rnd [.inRegion ops rest] { tmps:=yi st.tmps o.dst r,h:=h' } Q)):TodoSem P n m rnd [.inRegion ops (i :: rest)] st Q :=
 ⟨fun b E w tmps ds base h1 h2 hb h3 h4 h5 k cs=>by
  have hw:=vbm h1.tmps hg
  have hat:y9 P (fat b tmps ds (.inRegion ops (i :: rest) :: k)) cs (execOp (cev tmps) o):=by
   refine ⟨fun w => ?_,fun _ _ _ _ h=>by cases h⟩
   have:=stepGR_op (P:=P) (b:=b) (a:=⟨tmps,ds⟩) (k:=k) (cs:=cs) (w:=w) (ops:=ops) (i:=i) (rest:=rest) ho hw
   rw [Oper.semAt_eq _ _ _ hd] at this
   exact this
  obtain ⟨r,h',E1,w1,v,q,s1,s2,s3,s4,s5,s6,s7⟩:=(h ⟨hd,h1.lt⟩).run E w _ h1.heap ⟨tmps,h1.tmps,rfl⟩ _ cs hat
  have ht:TR E1 w1 st.tmps tmps:=h1.tmps.keep s6.keeps h1.lt
  have hst:StR E1 w1 { tmps:=yi st.tmps o.dst r,h:=h' } (Act.put ⟨tmps,[]⟩ o.dst v).tmps :=
   ⟨s2,ht.put o.dst s1,xaK (fun x hx=>(h1.lt x hx).mono s4 s5) o.dst s3⟩
  have hx:Ext n m E w E1 w1:=s6.mono h4 h5
  obtain ⟨e,st',E',w',tmps',ds',q,r1,r2,r3,r4,r5,r6⟩:=TodoSem.run q b E1 w1 _ ds base hst (h2.ext hx) (Nat.le_trans hb hx.size) (h3.ext hx) (Nat.le_trans h4 s4) (Nat.le_trans h5 s5) k cs
  refine ⟨e,st',E',w',tmps',ds',q,r1,r2,hx.trans (Nat.le_refl _) (Nat.le_refl _) r3,r4,r5,.of_steps ?_ r6⟩
  rw [gb7] at s7
  simp only [ho,Option.bind_some] at s7
  exact s7⟩
theorem wU (h:Q .normal st):TodoSem P n m rnd [.inRegion ops []] st Q :=
 vL (items':=[]) (fun _ _ _ _ _ _ _ _=>zbG) (jay h)
theorem ga1 {id:Nat} (h:TodoSem P n m rnd [.inRegion ops (List.range ops.size)] st Q):TodoSem P n m rnd [.code (.region id ops false)] st Q :=
 vL (items':=[.inRegion ops (List.range ops.size)]) (fun _ _ _ _ _ _ _ _=>ybG) h
end region
end
end Go.Abs

namespace Go.Abs
noncomputable section
variable [Gl]
structure uT (P:Program) (f:FuncId):Prop where
 ok:∃ fn,P.funcs[f]? = some fn∧fn.body.isNone=false∧(fn.name == "runtime.NumGoroutine")=false
structure CallSem (P:Program) (f:FuncId) (args:List AV) (h:Heap) (K:AV→Heap→Prop):Prop where
 ok:uT P f
 run:∀ (E:Env) (w:World) (vs:Array Value),HR E w h→TR E w args vs→(∀ x∈args,Lt h.blks.length h.loops.length x)→∀ cs:List Frame,
  ∃ r h' E' w' v fr,K r h'∧VR E' w' r v∧HR E' w' h'∧Lt h'.blks.length h'.loops.length r∧h.blks.length≤h'.blks.length∧h.loops.length≤h'.loops.length ∧
   Ext h.blks.length h.loops.length E w E' w'∧Steps P (lone (Frame.enter P f vs .normal) cs w) (lone fr cs w')∧fr.fn=f∧fr.leaving P w' (.returned v)
theorem CallSem.mono {P:Program} {f:FuncId} {args:List AV} {h:Heap} {K K':AV→Heap→Prop} (g:CallSem P f args h K) (hk:∀ r h',K r h'→K' r h'):CallSem P f args h K' :=
 ⟨g.ok,fun E w vs h1 h2 h3 cs=>by obtain ⟨r,h',E',w',v,fr,k,rest⟩:=g.run E w vs h1 h2 h3 cs;exact ⟨r,h',E',w',v,fr,hk _ _ k,rest⟩⟩
theorem HR.frame {E:Env} {w w':World} {h:Heap} (hr:HR E w h) (hf:∀ B,zf E B→w'.heap[B]? = w.heap[B]?)
  (hk:Keeps h.blks.length h.loops.length E w E w') (hs:w.heap.size≤w'.heap.size) (hgl:GlobOK E w'):HR E w' h where
 dead:=hr.dead
 rows b rs g fz hb:=by
  obtain ⟨Ls,h1,h2⟩:=hr.rows b rs g fz hb
  refine ⟨Ls,h1,h2.one,h2.now,fun L hL => ?_,h2.apart⟩
  have hl:=h2.all L hL
  obtain ⟨arr,el,a1,a2,a3⟩:=hl.lies
  refine ⟨⟨arr,el,(hf _ (.inl ⟨b,Ls,L,h1,hL,rfl⟩)).trans a1,a2,fun i hi hi' j hj => ?_⟩,hl.len,hl.fits,hl.sz,hl.own,hl.free⟩
  obtain ⟨v,b1,b2,b3⟩:=a3 i hi hi' j hj
  exact ⟨v,b1,b2.keep hk (hr.lt.blks b _ hb _ (List.getElem_mem hi) _ (List.getElem_mem hj)),b3⟩
 maps b es hb:=by
  obtain ⟨Ls,h1,⟨L,ces,clock,rfl,h3,h4,h5,h6⟩⟩:=hr.maps b es hb
  refine ⟨[L],h1,⟨L,ces,clock,rfl,h3,(hf _ (.inl ⟨b,[L],L,h1,by simp,rfl⟩)).trans h4,h5,fun i hi hj => ?_⟩⟩
  have hl:=hr.lt.blks b _ hb _ (List.getElem_mem hi)
  exact ⟨(h6 i hi hj).1.keep hk hl.1,(h6 i hi hj).2.keep hk hl.2⟩
 apart:=hr.apart
 deadl:=hr.deadl
 loops l r hl:=by
  obtain ⟨o,h1,⟨ct,df,fi,h2,h3⟩⟩:=hr.loops l r hl
  exact ⟨o,h1,⟨ct,df,fi,(hf _ (.inr ⟨l,h1⟩)).trans h2,h3.keep hk (hr.lt.loops l r hl)⟩⟩
 lapart:=hr.lapart
 lt:=hr.lt
 inside B hB:=Nat.lt_of_lt_of_le (hr.inside B hB) hs
 globs:=hgl
structure gby (P:Program) (fn:Func) (s:St) (r:AV):Prop where
 run:∀ (E:Env) (w:World) (tmps:Array Value),StR E w s tmps→∃ v,(results fn tmps).run P w=.ok v w∧VR E w r v∧Lt s.h.blks.length s.h.loops.length r
structure Past (base:Nat) (E:Env) (w w':World):Prop where
 size:w'.heap.size=w.heap.size
 os:w'.os=w.os
 output:w'.output=w.output
 tape:w'.tape=w.tape
 same:∀ B,(B < base∨zf E B∨∃ c el fr,w.heap[B]? = some (.cells c el fr))→w'.heap[B]? = w.heap[B]?
omit [Gl] in
theorem Past.refl (base:Nat) (E:Env) (w:World):Past base E w w:=⟨rfl,rfl,rfl,rfl,fun _ _=>rfl⟩
omit [Gl] in
theorem Past.keeps {base n m:Nat} {E:Env} {w w':World} (h:Past base E w w'):Keeps n m E w E w' where
 cells B o v hF hc:=by
  refine ⟨hF,?_⟩
  have:w'.heap[B]? = w.heap[B]? := by
   refine h.same B (.inr (.inr ?_))
   unfold World.cell? at hc
   split at hc
   ·rename_i c el fr hb;exact ⟨_,_,_,hb⟩
   ·cases hc
  simp only [World.cell?,this] at hc ⊢
  exact hc
 refs b _ Ls h':=⟨Ls,h',fun L hL=>⟨L,hL,rfl,rfl,rfl,rfl,Nat.le_refl _⟩⟩
 loops _ _ _ h':=h'
omit [Gl] in
theorem ybF {P:Program} {fr:Frame} {cs:List Frame} {w:World} {r:Nat} {ds:List Deferred} (hm:fr.mode=.returning)
  (hd:fr.defers={ target:=.collected r,args := #[] } :: ds) (hw:w.heap[r]? = some (.deferred (some []))) :
  step P (lone fr cs w)=.next (lone { fr with defers:=ds } cs { w with heap:=w.heap.setIfInBounds r (.deferred none) }):=by
 have hrun:(Instr.takeDeferred r).run P w=.ok [] { w with heap:=w.heap.setIfInBounds r (.deferred none) }:=by
  simp [Instr.takeDeferred,getObj,setObj,bind,Sem.bind,Sem.run,hw,pure]
 refine step_lone_go ?_
 simp only [stepG,hm]
 simp [unwind,hd,Sem.runT_eq,hrun,hm]
omit [Gl] in
theorem jaZ {P:Program} {E:Env} {base:Nat} {cs:List Frame}:∀ (rs:List Nat) (fr:Frame) (w:World),rs.Nodup →
  (∀ r∈rs,base≤r∧¬ zf E r∧w.heap[r]? = some (.deferred (some [])))→fr.mode=.returning →
  fr.defers=rs.map (fun r=>{ target:=.collected r,args := #[] }) →
  ∃ w',Past base E w w'∧Steps P (lone fr cs w) (lone { fr with defers:=[] } cs w')
 | [],fr,w,_,_,_,hd=>⟨w,.refl ..,by
   have:({ fr with defers:=[] }:Frame)=fr:=by rw [show ([]:List Deferred)=fr.defers from hd.symm]
   rw [this];exact .refl ..⟩
 | r :: rs,fr,w,hn,hr,hm,hd=>by
  obtain ⟨h1,h2,h3⟩:=hr r (by simp)
  have hs:=ybF (P:=P) (cs:=cs) hm hd h3
  rw [List.nodup_cons] at hn
  have hne:∀ x,x≠r→(w.heap.setIfInBounds r (.deferred none))[x]? = w.heap[x]? := fun x hx=>by
   rw [Array.getElem?_setIfInBounds_ne (Ne.symm hx)]
  obtain ⟨w',p,s⟩:=jaZ rs { fr with defers:=rs.map (fun r=>{ target:=.collected r,args := #[] }) } { w with heap:=w.heap.setIfInBounds r (.deferred none) } hn.2
   (fun x hx=>by
    obtain ⟨a,b,c⟩:=hr x (by simp [hx])
    refine ⟨a,b,?_⟩
    show (w.heap.setIfInBounds r (.deferred none))[x]? = _
    rw [hne x (fun e=>hn.1 (e ▸ hx))];exact c) hm rfl
  refine ⟨w',⟨?_,p.os,p.output,p.tape,fun B hB => ?_⟩,.head hs s⟩
  ·rw [p.size];simp
  ·have hBr:B≠r:=by
    rintro rfl
    rcases hB with h | h | ⟨c,el,fr',h⟩
    ·omega
    ·exact h2 h
    ·rw [h3] at h;cases h
   have e1:w'.heap[B]? = (w.heap.setIfInBounds r (.deferred none))[B]? := by
    refine p.same B ?_
    rcases hB with h | h | ⟨c,el,fr',h⟩
    ·exact .inl h
    ·exact .inr (.inl h)
    ·exact .inr (.inr ⟨c,el,fr',(hne B hBr).trans h⟩)
   rw [e1,hne B hBr]
omit [Gl] in
theorem TR.pad {E:Env} {w:World} {ts:List AV} {vs:Array Value} (h:TR E w ts vs) (n:Nat) :
  TR E w (ts ++ List.replicate (n - ts.length) .junk) (vs ++ Array.replicate (n - vs.size) undef):=by
 refine ⟨by simp [h.size],fun i hi hj => ?_⟩
 rcases Nat.lt_or_ge i ts.length with hl | hl
 ·have hv:i < vs.size:=h.size ▸ hl
  rw [List.getElem_append_left hl,Array.getElem_append_left hv]
  exact h.val i hl hv
 ·have:(ts ++ List.replicate (n - ts.length) AV.junk)[i]=.junk:=by
   rw [List.getElem_append_right hl];simp
  rw [this];exact .junk _
theorem zbv {P:Program} {f:FuncId} {fn:Func} {c:Code} {args:List AV} {h:Heap} {K:AV→Heap→Prop} (hf:P.funcs[f]? = some fn) (hb:fn.body=some c)
  (hn:(fn.name == "runtime.NumGoroutine")=false) (g:TodoSem P h.blks.length h.loops.length none [.code c] { tmps:=args ++ List.replicate (fn.ntmps - args.length) .junk,h:=h }
   (fun e s=>(match e with | .normal=>True | .jump .ret=>True | _=>False)∧∃ r,gby P fn s r∧K r s.h)):CallSem P f args h K :=
 ⟨⟨fn,hf,by simp [hb],hn⟩,fun E w vs h1 h2 h3 cs=>by
   let b:Frame:={ fn:=f,tmps := #[],todo:=[],defers:=[],mode:=.run,kind:=.normal,roundOf:=none }
   have henter:Frame.enter P f vs .normal=fat b (vs ++ Array.replicate (fn.ntmps - vs.size) undef) [] [.code c]:=by
    simp [Frame.enter,fat,hf,hb,b]
   have hst:StR E w { tmps:=args ++ List.replicate (fn.ntmps - args.length) .junk,h:=h } (vs ++ Array.replicate (fn.ntmps - vs.size) undef):=by
    refine ⟨h1,h2.pad fn.ntmps,fun x hx => ?_⟩
    rcases List.mem_append.1 hx with hx | hx
    ·exact h3 x hx
    ·rw [(List.mem_replicate.1 hx).2];exact .junk
   obtain ⟨e,s,E1,w1,t1,d1,⟨he,r,hres,hk⟩,s1,s2,s3,s4,s5,s6⟩:=g.run b E w _ [] w.heap.size hst ⟨[],rfl,by simp,by simp⟩ (Nat.le_refl _) rfl (Nat.le_refl _) (Nat.le_refl _) [] cs
   have hret:∃ todo,Steps P (lone (Frame.enter P f vs .normal) cs w) (lone { fat b t1 d1 todo with mode:=.returning } cs w1):=by
    rw [henter]
    cases e with
    | normal=>exact ⟨[],Steps.trans s6 (.one (stepR_end (b:=b) (a:=⟨t1,d1⟩) rfl))⟩
    | jump j =>
     obtain ⟨todo,hs,_⟩:=s6
     cases j with
     | ret=>exact ⟨.code .ret :: todo,hs.trans (.one (stepR_ret (b:=b) (a:=⟨t1,d1⟩) rfl))⟩
     | _=>exact he.elim
   obtain ⟨todo,hret⟩:=hret
   obtain ⟨rs,e1,e2,e3⟩:=s2.marks
   obtain ⟨w2,p,hs⟩:=jaZ (P:=P) (E:=E1) (base:=w.heap.size) (cs:=cs) rs { fat b t1 d1 todo with mode:=.returning } w1 e2 e3 rfl e1
   have hk2:Keeps s.h.blks.length s.h.loops.length E1 w1 E1 w2:=p.keeps
   have hst2:StR E1 w2 s t1:=⟨s1.heap.frame (fun B hB=>p.same B (.inr (.inl hB))) hk2 (by rw [p.size];exact Nat.le_refl _) (s1.heap.globs.stand hk2 fun B c el fr h=>p.same B (.inr (.inr ⟨c,el,fr,h⟩))),s1.tmps.keep hk2 s1.lt,s1.lt⟩
   obtain ⟨v,hv,hvr,hlt⟩:=hres.run E1 w2 t1 hst2
   have hx2:Ext h.blks.length h.loops.length E w E1 w2:=by
    refine ⟨s3.keeps.trans (Nat.le_refl _) (Nat.le_refl _) p.keeps,by rw [p.size];exact s3.size,p.os.trans s3.os,p.output.trans s3.output,p.tape.trans s3.tape,fun B hB hf => ?_,s3.F',s3.foot'⟩
    rw [p.same B (.inl hB),s3.same B hB hf]
   refine ⟨r,s.h,E1,w2,v,{ fat b t1 d1 todo with mode:=.returning,defers:=[] },hk,hvr,hst2.heap,hlt,s4,s5,hx2,hret.trans hs,rfl,rfl,rfl,rfl,fn,hf,hv⟩⟩
structure Grows (w w':World):Prop where
 size:w.heap.size≤w'.heap.size
 os:w'.os=w.os
 output:w'.output=w.output
 tape:w'.tape=w.tape
 same:∀ B,B < w.heap.size→w'.heap[B]? = w.heap[B]?
omit [Gl] in
theorem zR {E E':Env} {w w':World} (h:∀ B o v,¬ E.F B→w.cell? ⟨B,o,none⟩=some v→¬ E'.F B∧w'.cell? ⟨B,o,none⟩=some v):Keeps 0 0 E w E' w' :=
 ⟨h,fun _ hb=>absurd hb (Nat.not_lt_zero _),fun _ hl=>absurd hl (Nat.not_lt_zero _)⟩
structure zb (P:Program) (f:FuncId) (args:List AV) (r:AV):Prop where
 ok:uT P f
 pure:Pure r
 run:∀ (F:Nat→Prop) (w:World) (vs:Array Value),(∀ B,F B→B < w.heap.size)→GlobOK (qf F) w→TR (qf F) w args vs→∀ cs:List Frame,
  ∃ v w' fr,VR (qf F) w' r v∧Grows w w'∧Steps P (lone (Frame.enter P f vs .normal) cs w) (lone fr cs w')∧fr.fn=f∧fr.leaving P w' (.returned v)
inductive Frz (h:Heap):AV→AV→Prop where
 | pure (x:AV) (hp:Pure x):Frz h x x
 | agg (cs ds:List AV) (hl:cs.length=ds.length) (hh:∀ (i:Nat) (hi:i < cs.length) (hj:i < ds.length),Frz h cs[i] ds[i]):Frz h (.agg cs) (.agg ds)
 | tup (cs ds:List AV) (hl:cs.length=ds.length) (hh:∀ (i:Nat) (hi:i < cs.length) (hj:i < ds.length),Frz h cs[i] ds[i]):Frz h (.tup cs) (.tup ds)
 | ms (b i len:Nat) (capo:Option Nat) (rs:List (List AV)) (g fz:Bool) (es:List (List AV)) (hb:h.blk? b=some (.rows rs g fz)) (hl:es.length=len) (hi:i + len≤rs.length)
   (hs:∀ (t:Nat) (ht:t < es.length) (hr:i + t < rs.length),es[t].length=rs[i + t].length)
   (hh:∀ (t:Nat) (ht:t < es.length) (hr:i + t < rs.length) (j:Nat) (h1:j < es[t].length) (h2:j < rs[i + t].length),Frz h rs[i + t][j] es[t][j]) :
   Frz h (.ms b i len capo) (.vs es capo)
 | ptr (b i j:Nat) (rs:List (List AV)) (g fz:Bool) (row:List AV) (hb:h.blk? b=some (.rows rs g fz)) (hi:i < rs.length) (hl:row.length=rs[i].length)
   (hh:∀ (t:Nat) (h1:t < row.length) (h2:t < rs[i].length),Frz h rs[i][t] row[t]):Frz h (.ptr b i j) (.vp row j)
 | fn (f:Fn) (a c a' c':List AV) (h1:a.length=a'.length) (h2:c.length=c'.length) (hh1:∀ (i:Nat) (hi:i < a.length) (hj:i < a'.length),Frz h a[i] a'[i])
   (hh2:∀ (i:Nat) (hi:i < c.length) (hj:i < c'.length),Frz h c[i] c'[i]):Frz h (.fn f a c) (.fn f a' c')
 | ifc (t:TypeId) (x y:AV) (hh:Frz h x y):Frz h (.ifc t x) (.ifc t y)
 | vs (es ds:List (List AV)) (capo:Option Nat) (hl:es.length=ds.length) (hs:∀ (t:Nat) (h1:t < es.length) (h2:t < ds.length),es[t].length=ds[t].length)
   (hh:∀ (t:Nat) (h1:t < es.length) (h2:t < ds.length) (j:Nat) (h3:j < es[t].length) (h4:j < ds[t].length),Frz h es[t][j] ds[t][j]):Frz h (.vs es capo) (.vs ds capo)
 | vp (r s:List AV) (j:Nat) (hl:r.length=s.length) (hh:∀ (t:Nat) (h1:t < r.length) (h2:t < s.length),Frz h r[t] s[t]):Frz h (.vp r j) (.vp s j)
theorem Frz.VR {E:Env} {w:World} {h:Heap} {F:Nat→Prop} (hr:HR E w h) (hF:∀ B o v,¬ E.F B→w.cell? ⟨B,o,none⟩=some v→¬ F B) (hfoot:∀ b Ls L,E.ρ b=some Ls→L∈Ls→¬ F L.blk)
  {x y:AV} (hf:Frz h x y):∀ v,Abs.VR E w x v→Abs.VR (qf F) w y v:=by
 induction hf with
 | pure x hp=>exact fun v hv=>hv.keep (zR (E':=qf F) fun B o v a b=>⟨hF B o v a b,b⟩) hp
 | agg cs ds hl hh ih =>
  intro v hv
  cases hv with
  | agg _ vs hs hv=>exact .agg ds vs (hl ▸ hs) fun i hi hj=>ih i (hl ▸ hi) hi _ (hv i (hl ▸ hi) hj)
 | tup cs ds hl hh ih =>
  intro v hv
  cases hv with
  | tup _ vs hs hv=>exact .tup ds vs (hl ▸ hs) fun i hi hj=>ih i (hl ▸ hi) hi _ (hv i (hl ▸ hi) hj)
 | ms b i len capo rs g fz es hb hl hi hs hh ih =>
  intro v hv
  cases hv with
  | ms _ _ _ _ a l c hv =>
   obtain ⟨Ls,h1,h2⟩:=hr.rows b rs g fz hb
   obtain ⟨L,hL,h3,h4,h5,h6,⟨k0,hk0,rfl⟩,rfl⟩:=hv Ls h1
   by_cases hes:es.length=0
   ·subst hl
    obtain rfl:=List.eq_nil_of_length_eq_zero hes
    exact .vs [] capo L.blk (L.off + k0 * L.sz) c L.sz (fun _ _=>undef) (by simp) h6 (fun t ht=>by simp at ht) (fun t ht=>by simp at ht) (fun t ht=>by simp at ht)
   obtain rfl:i=k0:=by omega
   obtain ⟨arr,el,a1,a2,a3⟩:=(h2.all L hL).lies
   have hsz:∀ (t:Nat) (ht:t < es.length),es[t].length=L.sz:=fun t ht=>(hs t ht (by omega)).trans ((h2.all L hL).sz _ _)
   subst hl
   have cell:∀ (t:Nat) (ht:t < es.length) (j:Nat) (hj:j < es[t].length),∃ v,arr[L.off + (i + t) * L.sz + j]? = some v∧Abs.VR E w ((rs[i + t]'(by omega))[j]'(by rw [← hs t ht (by omega)];exact hj)) v:=fun t ht j hj=>by
    obtain ⟨v,b1,b2,_⟩:=a3 (i + t) (by omega) (by omega) j (by rw [← hs t ht (by omega)];exact hj)
    exact ⟨v,b1,b2⟩
   refine .vs es capo L.blk (L.off + i * L.sz) c L.sz (fun t j=>(arr[L.off + (i + t) * L.sz + j]?).getD undef) h4 h6 hsz (fun t ht j hj => ?_) (fun t ht j hj => ?_)
   ·obtain ⟨v,b1,_⟩:=cell t ht j hj
    refine ⟨hfoot b Ls L h1 hL,?_⟩
    have e:L.off + i * L.sz + t * L.sz + j=L.off + (i + t) * L.sz + j:=by rw [Nat.add_mul];omega
    simp only [World.cell?,a1,e,b1,Option.getD_some]
    rfl
   ·obtain ⟨v,b1,b2⟩:=cell t ht j hj
    have:=ih t ht (by omega) j hj (by rw [← hs t ht (by omega)];exact hj) v b2
    simpa only [b1,Option.getD_some] using this
 | ptr b i j rs g fz row hb hi hl hh ih =>
  intro v hv
  cases hv with
  | ptr _ _ _ _ hv =>
   obtain ⟨Ls,h1,h2⟩:=hr.rows b rs g fz hb
   obtain ⟨L,hL,h3,h4,rfl⟩:=hv Ls h1
   obtain ⟨arr,el,a1,a2,a3⟩:=(h2.all L hL).lies
   have cell:∀ (t:Nat) (ht:t < row.length),∃ v,arr[L.off + i * L.sz + t]? = some v∧Abs.VR E w (rs[i])[t] v:=fun t ht=>by
    obtain ⟨v,b1,b2,_⟩:=a3 i hi h3 t (by omega)
    exact ⟨v,b1,b2⟩
   refine .vp row j L.blk (L.off + i * L.sz) (fun t=>(arr[L.off + i * L.sz + t]?).getD undef) (fun t ht => ?_) (fun t ht => ?_)
   ·obtain ⟨v,b1,_⟩:=cell t ht
    refine ⟨hfoot b Ls L h1 hL,?_⟩
    simp only [World.cell?,a1,b1,Option.getD_some]
    rfl
   ·obtain ⟨v,b1,b2⟩:=cell t ht
    have:=ih t ht (by omega) v b2
    simpa only [b1,Option.getD_some] using this
 | fn f a c a' c' h1 h2 hh1 hh2 ih1 ih2 =>
  intro v hv
  cases hv with
  | fn _ _ _ vf vc e1 e2 v1 v2 =>
   exact .fn f a' c' vf vc (h1 ▸ e1) (h2 ▸ e2) (fun i hi hj=>ih1 i (h1 ▸ hi) hi _ (v1 i (h1 ▸ hi) hj)) (fun i hi hj=>ih2 i (h2 ▸ hi) hi _ (v2 i (h2 ▸ hi) hj))
 | ifc t x y hh ih =>
  intro v hv
  cases hv with
  | ifc _ _ v hv=>exact .ifc t y v (ih v hv)
 | vs es ds capo hl hs hh ih =>
  intro v hv
  cases hv with
  | vs _ _ B off cap sz vals a1 a2 a3 a4 a5 =>
   rw [hl]
   refine .vs ds capo B off cap sz vals (hl ▸ a1) a2 (fun t ht=>(hs t (by omega) ht).symm.trans (a3 t (by omega))) (fun t ht j hj => ?_) (fun t ht j hj => ?_)
   ·have e:=hs t (by omega) ht
    obtain ⟨b1,b2⟩:=a4 t (by omega) j (by omega)
    exact ⟨hF B _ _ b1 b2,b2⟩
   ·have e:=hs t (by omega) ht
    exact ih t (by omega) ht j (by omega) hj _ (a5 t (by omega) j (by omega))
 | vp r s j hl hh ih =>
  intro v hv
  cases hv with
  | vp _ _ B off vals a1 a2 =>
   refine .vp s j B off vals (fun t ht => ?_) (fun t ht => ?_)
   ·obtain ⟨b1,b2⟩:=a1 t (by omega)
    exact ⟨hF B _ _ b1 b2,b2⟩
   ·exact ih t (by omega) ht _ (a2 t (by omega))
theorem wbl {F:Nat→Prop} {w:World} (hF:∀ B,F B→B < w.heap.size) (hg:GlobOK (qf F) w):HR (qf F) w ⟨[],[]⟩ where
 dead _ _:=rfl
 rows b rs g fz h:=by simp [Heap.blk?] at h
 maps b es h:=by simp [Heap.blk?] at h
 apart b b' Ls Ls' L L' _ h:=by cases h
 deadl _ _:=rfl
 loops l r h:=by simp [Heap.loop?] at h
 lapart l l' o h:=by cases h
 lt:=⟨fun b x h=>by simp [Heap.blk?] at h,fun l r h=>by simp [Heap.loop?] at h⟩
 inside:=hF
 globs:=hg
omit [Gl] in
theorem qZ {F:Nat→Prop} {B:Nat}:¬ zf (qf F) B:=by
 rintro (⟨b,Ls,L,h,_⟩ | ⟨l,h⟩) <;> cases h
theorem yc {P:Program} {f:FuncId} {args:List AV} {r:AV} (ha:∀ x∈args,Pure x) (hr:Pure r)
  (h:CallSem P f args ⟨[],[]⟩ (fun r' h'=>Frz h' r' r)):zb P f args r :=
 ⟨h.ok,hr,fun F w vs hF hg ht cs=>by
  obtain ⟨r',h',E',w',v,fr,hk,s1,s2,s3,s4,s5,s6,s7,s8,s9⟩:=h.run (qf F) w vs (wbl hF hg) ht ha cs
  refine ⟨v,w',fr,?_,⟨s6.size,s6.os,s6.output,s6.tape,fun B hB=>s6.same B hB qZ⟩,s7,s8,s9⟩
  refine Frz.VR s2 (fun B o v hB hc hFB => ?_) (fun b Ls L h1 h2 hFB => ?_) hk v s1
  ·exact (s6.F' B (hF B hFB) hFB).elim hB qZ
  ·exact qZ (s6.foot' L.blk (hF _ hFB) (.inl ⟨b,Ls,L,h1,h2,rfl⟩))⟩
omit [Gl] in
theorem Grows.keeps {w w':World} (g:Grows w w') (n m:Nat) (E:Env):Keeps n m E w E w' where
 cells B o v hF hc:=by
  refine ⟨hF,?_⟩
  have hB:B < w.heap.size:=by
   rcases Nat.lt_or_ge B w.heap.size with h | h
   ·exact h
   ·simp [World.cell?,Array.getElem?_eq_none h] at hc
  simp only [World.cell?,g.same B hB] at hc ⊢
  exact hc
 refs b _ Ls h':=⟨Ls,h',fun L hL=>⟨L,hL,rfl,rfl,rfl,rfl,Nat.le_refl _⟩⟩
 loops _ _ _ h':=h'
theorem xi {E:Env} {w:World} {h:Heap} (hr:HR E w h) {B:Nat} (hf:zf E B):B < w.heap.size:=by
 have hs:∀ o,w.heap[B]? = some o→B < w.heap.size:=fun o ho=>by
  rcases Nat.lt_or_ge B w.heap.size with h | h
  ·exact h
  ·rw [Array.getElem?_eq_none h] at ho;cases ho
 rcases hf with ⟨b,Ls,L,h1,h2,rfl⟩ | ⟨l,h1⟩
 ·cases hb:h.blk? b with
  | none=>rw [hr.dead b hb] at h1;cases h1
  | some x =>
   cases x with
   | rows rs g fz =>
    obtain ⟨Ls',h3,h4⟩:=hr.rows b rs g fz hb
    rw [h1] at h3;injection h3 with h3;subst h3
    obtain ⟨arr,el,a1,_⟩:=(h4.all L h2).lies
    exact hs _ a1
   | mapb es =>
    obtain ⟨Ls',h3,⟨L',ces,clock,rfl,_,h4,_⟩⟩:=hr.maps b es hb
    rw [h1] at h3;injection h3 with h3;subst h3
    obtain rfl:L=L':=by simpa using h2
    exact hs _ h4
 ·cases hl:h.loop? l with
  | none=>rw [hr.deadl l hl] at h1;cases h1
  | some r =>
   obtain ⟨o,h3,⟨ct,df,fi,h4,_⟩⟩:=hr.loops l r hl
   rw [h1] at h3;injection h3 with h3;subst h3
   exact hs _ h4
theorem Grows.ext {E:Env} {w w':World} {h:Heap} (g:Grows w w') (hr:HR E w h) (n m:Nat):Ext n m E w E w'∧HR E w' h:=by
 have hx:Ext n m E w E w':=⟨g.keeps n m E,g.size,g.os,g.output,g.tape,fun B hB _=>g.same B hB,fun _ _ h=>.inl h,fun _ _ h=>h⟩
 exact ⟨hx,hr.frame (fun B hB=>g.same B (xi hr hB)) (g.keeps _ _ E) g.size (hr.globs.ext hx)⟩
theorem uaT {P:Program} {f:FuncId} {args:List AV} {r:AV} {h:Heap} {K:AV→Heap→Prop} (ha:∀ x∈args,Pure x) (hp:zb P f args r) (hk:K r h):CallSem P f args h K :=
 ⟨hp.ok,fun E w vs h1 h2 _ cs=>by
  have ht:TR (qf E.F) w args vs:=h2.keep (zR (E:=E) (E':=qf E.F) (w:=w) (w':=w) fun B o v a b=>⟨a,b⟩) ha
  obtain ⟨v,w',fr,s1,s2,s3,s4,s5⟩:=hp.run E.F w vs h1.inside (h1.globs.pen E.F fun _ h=>h) ht cs
  obtain ⟨x1,x2⟩:=s2.ext h1 h.blks.length h.loops.length
  exact ⟨r,h,E,w',v,fr,hk,s1.keep (zR (E:=qf E.F) (E':=E) (w:=w') (w':=w') fun B o v a b=>⟨a,b⟩) hp.pure,x2,hp.pure.lt _ _,Nat.le_refl _,Nat.le_refl _,x1,s3,s4,s5⟩⟩
inductive Plain:AV→Prop where
 | bool (b):Plain (.bool b)
 | int (k n):Plain (.int k n)
 | str (s):Plain (.str s)
 | nilp:Plain .nilp
 | nils:Plain .nils
 | nilf:Plain .nilf
 | nili:Plain .nili
 | nilm:Plain .nilm
 | agg (cs:List AV) (h:∀ (i:Nat) (hi:i < cs.length),Plain cs[i]):Plain (.agg cs)
 | tup (cs:List AV) (h:∀ (i:Nat) (hi:i < cs.length),Plain cs[i]):Plain (.tup cs)
omit [Gl] in
theorem Plain.VR {E E':Env} {w w':World} {x:AV} (h:Plain x):∀ v,Abs.VR E w x v→Abs.VR E' w' x v:=by
 induction h with
 | agg cs h ih=>intro v hv;cases hv with | agg _ vs hs hv=>exact .agg cs vs hs fun i hi hj=>ih i hi _ (hv i hi hj)
 | tup cs h ih=>intro v hv;cases hv with | tup _ vs hs hv=>exact .tup cs vs hs fun i hi hj=>ih i hi _ (hv i hi hj)
 | _=>intro v hv;cases hv;constructor
theorem qav {P:Program} {f:FuncId} {args args':List AV} {r:AV} {h:Heap} {K:AV→Heap→Prop} (ha:args.length=args'.length)
  (hz:∀ (i:Nat) (hi:i < args.length) (hj:i < args'.length),Frz h args[i] args'[i]) (hp:zb P f args' r) (hpl:Plain r) (hk:K r h):CallSem P f args h K :=
 ⟨hp.ok,fun E w vs h1 h2 _ cs=>by
  have ht:TR (qf fun _=>False) w args' vs:=⟨ha ▸ h2.size,fun i hi hj=>Frz.VR h1 (fun _ _ _ _ _ h=>h) (fun _ _ _ _ _ h=>h) (hz i (ha ▸ hi) hi) _ (h2.val i (ha ▸ hi) hj)⟩
  obtain ⟨v,w',fr,s1,s2,s3,s4,s5⟩:=hp.run (fun _=>False) w vs (fun _ h=>h.elim) (h1.globs.pen _ fun _ _ h=>h) ht cs
  obtain ⟨x1,x2⟩:=s2.ext h1 h.blks.length h.loops.length
  exact ⟨r,h,E,w',v,fr,hk,hpl.VR v s1,x2,hp.pure.lt _ _,Nat.le_refl _,Nat.le_refl _,x1,s3,s4,s5⟩⟩
end
end Go.Abs
