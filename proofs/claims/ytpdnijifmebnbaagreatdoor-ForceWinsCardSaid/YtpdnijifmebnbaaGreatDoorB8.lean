/-
  Steps to a law of this program: AbsRun, AbsWp, AbsEval1.
  Conditions: none.
-/
import Derived.Test.YtpdnijifmebnbaaGreatDoorB7
set_option linter.unusedVariables false
set_option linter.unusedSimpArgs false
set_option linter.unusedSectionVars false
namespace Go.Abs
noncomputable section
variable [Gl]
def qci (P:Program) (l:Nat) (args:List AV) (h:Heap) (K:AV→Heap→Prop):Prop :=
 GivesSem P h (fun w E t=>∃ (o:Nat) (vs:Array Value),E.lam l=some o∧TR E w args vs∧(∀ x∈args,Lt h.blks.length h.loops.length x)∧t=Instr.yield o vs) K
structure waY (P:Program) (f:FuncId) (args:List AV) (r:AV):Prop where
 pure:Pure r
 run:∀ (E:Env) (w:World) (vs:Array Value),TR E w args vs→∃ v,(callFunc f vs).run P w=.ok (.value v) w∧VR E w r v
def uo (P:Program) (h:Heap) (f:AV) (args:List AV) (K:AV→Heap→Prop):Prop :=
 match f with
 | .fn (.func g) first cap=>CallSem P g (first ++ args ++ cap) h K∨∃ r,waY P g (first ++ args ++ cap) r∧K r h
 | .yld l=>(match h.loop? l with | some _=>True | none=>False)∧qci P l args h K
 | _=>False
def ve (P:Program) (T:Tab) (st:St) (c:Call) (K:AV→Heap→Prop):Prop :=
 match c.callee with
 | .builtin .len =>
  match c.argTypes.toList,c.args.toList with
  | [t],[x]=>gC T st.h t (st.ev x) (fun r=>K r st.h)
  | _,_=>False
 | .builtin .append =>
  match c.argTypes.toList,c.args.toList with
  | [t,u],[s,x] =>
   match T t,T u with
   | some ti,some ui =>
    (gE ui.desc=true∧(match ti.desc with | .slice e=>(match T e with | some ei=>(match st.ev x with | .str _=>ei.size=1 | _=>True) | none=>False) | _=>False)) ∧
     zai T st.h t (st.ev s) (st.ev x) (fun r h'=>K r h'∨vC h' r K)
   | _,_=>False
  | _,_=>False
 | .builtin .max =>
  match c.args.toList with
  | [x,y]=>match st.ev x,st.ev y with
   | .int k a,.int k' b=>k=k'∧K (.int k (max a b)) st.h
   | _,_=>False
  | _=>False
 | .builtin .min =>
  match c.args.toList with
  | [x,y]=>match st.ev x,st.ev y with
   | .int k a,.int k' b=>k=k'∧K (.int k (min a b)) st.h
   | _,_=>False
  | _=>False
 | .builtin .copy =>
  match c.argTypes.toList,c.args.toList with
  | [t,_],[d,x]=>z6 T st.h t (st.ev d) (st.ev x) K
  | _,_=>False
 | .value f=>uo P st.h (st.ev f) (c.args.toList.map st.ev) K
 | _=>False
def war:Operand→Bool
 | .const _=>true
 | _=>false
def yap (T:Tab) (op:BinOp) (t:TypeId) (ox oy:Operand) (x y:AV):Option AV :=
 match T t with
 | none=>none
 | some ti=>match ti.desc with
  | .interface _=>match war ox || war oy with
   | false=>none
   | true=>match x,y with
    | .nili,.nili=>(match op with | .eql=>some (.bool true) | .neq=>some (.bool false) | _=>none)
    | .nili,.ifc _ _=>(match op with | .eql=>some (.bool false) | .neq=>some (.bool true) | _=>none)
    | .ifc _ _,.nili=>(match op with | .eql=>some (.bool false) | .neq=>some (.bool true) | _=>none)
    | _,_=>none
  | _=>none
def vaF (T:Tab) (g:Nat→Option Blk) (op:BinOp) (t:TypeId) (x y:AV):Option AV :=
 match T t with
 | none=>none
 | some ti=>match ti.desc with
  | .pointer el=>(match T el with
   | none=>none
   | some ei=>(match Nat.blt 0 ei.size with
    | false=>none
    | true=>(match x,y with
     | .ptr b i j,.ptr b' i' j'=>(match g b,g b' with
      | some (.rows _ false false),some (.rows _ false false) =>
       (match op with
       | .eql=>some (.bool (Nat.beq b b' && Nat.beq i i' && Nat.beq j j'))
       | .neq=>some (.bool !(Nat.beq b b' && Nat.beq i i' && Nat.beq j j'))
       | _=>none)
      | _,_=>none)
     | _,_=>none)))
  | _=>none
def yac (T:Tab) (h:Heap) (op:BinOp) (t:TypeId) (x y:AV):Option AV:=vaF T h.blk? op t x y
def opW (P:Program) (T:Tab) (st:St) (o:Oper) (K:AV→Heap→Prop):Prop :=
 match o.op with
 | .move x | .assign x=>K (st.ev x) st.h
 | .pick c a b =>
  match st.ev c with
  | .bool t=>match t with
   | true=>K (st.ev a) st.h
   | false=>K (st.ev b) st.h
  | _=>False
 | .alloc e=>xai T st.h e K
 | .box e x=>vah T st.h e (st.ev x) K
 | .build t ps=>match zaw T t (ps.toList.map fun p=>(p.1,st.ev p.2)) with | some r=>K r st.h | none=>False
 | .buildSlice t n ps=>wT T st.h t n (ps.toList.map fun p=>(p.1,st.ev p.2)) K
 | .load t a=>match qC T st.h t (st.ev a) with | some r=>K r st.h | none=>False
 | .store t a x=>match xV T st.h t (st.ev a) (st.ev x) with | some h'=>K .junk h' | none=>False
 | .nilCheck x=>qx st.h (st.ev x) (fun r=>K r st.h)
 | .binOp op t x y _=>gj T st.h op t (st.ev x) (st.ev y) (fun r=>K r st.h)∨∃ r,(yap T op t x y (st.ev x) (st.ev y)=some r∨yac T st.h op t (st.ev x) (st.ev y)=some r)∧K r st.h
 | .unOp op _ x=>match unA op (st.ev x) with | some r=>K r st.h | none=>False
 | .convert s d x=>jJ T st.h s d (st.ev x) K∨xT T st.h s d (st.ev x) K
 | .makeFunc f a c=>K (.fn f (a.toList.map st.ev) (c.toList.map st.ev)) st.h
 | .makeSlice t l c=>qX T st.h t (st.ev l) (st.ev c) K
 | .slice t x lo hi mx=>vr T st.h t (st.ev x) (lo.map st.ev) (hi.map st.ev) (mx.map st.ev) (fun r=>K r st.h)
 | .fieldAddr t x f=>match xD T st.h t (st.ev x) f with | some r=>K r st.h | none=>False
 | .field t x f=>match gat T t (st.ev x) f with | some r=>K r st.h | none=>False
 | .indexAddr t x i=>yD T st.h t (st.ev x) (st.ev i) (fun r=>K r st.h)
 | .index t x i=>xR T t (st.ev x) (st.ev i) (fun r=>K r st.h)
 | .extract x i=>match st.ev x with | .tup cs=>(match cs[i]? with | some r=>K r st.h | none=>False) | _=>False
 | .makeMap _ none=>K (.mp st.h.blks.length) (st.h.push (.mapb []))
 | .lookup t x i c=>zN T st.h t (st.ev x) (st.ev i) c (fun r=>K r st.h)
 | .mapUpdate t m k x | .insert t m k x=>vad T st.h t (st.ev m) (st.ev k) (st.ev x) (fun h'=>K .junk h')
 | .call c=>ve P T st c K
 | _=>False
section sound
variable {P:Program} {T:Tab}
theorem yl {h:Heap} {s:World→Env→Sem Next→Prop} {K:AV→Heap→Prop}
  (hv:∀ E w t,HR E w h→s w E t→∃ sv:Sem Value,t=(do pure (.value (← sv)):Sem Next)∧VOK P h E w sv K):GivesSem P h s K :=
 ⟨fun E w t h1 h2 c cs h3=>by
  obtain ⟨sv,rfl,r,h',E',w',v,hr,hk,rest1,rest2,rest3,rest4,rest5,rest6⟩:=hv E w t h1 h2
  exact ⟨r,h',E',w',v,hk,rest1,rest2,rest3,rest4,rest5,rest6,.one (vaw h3 (by simp [hr]))⟩⟩
theorem zaL {E:Env} {w:World} {st:St} {tmps:Array Value} (h:TR E w st.tmps tmps) (xs:Array Operand):TR E w (xs.toList.map st.ev) (xs.map (cev tmps)) :=
 ⟨by simp,fun i hi hj=>by
  simp only [List.getElem_map,Array.getElem_toList,Array.getElem_map]
  exact xe h _⟩
theorem yaL {n m:Nat} {st:St} (h:∀ x∈st.tmps,Lt n m x) (xs:List Operand):∀ y∈xs.map st.ev,Lt n m y:=by
 intro y hy
 obtain ⟨x,_,rfl⟩:=List.mem_map.1 hy
 exact yag h x
theorem yba {E:Env} {w:World} {st:St} {tmps:Array Value} (h:TR E w st.tmps tmps) (ps:List (Nat × Operand)):PVR E w (ps.map fun p=>(p.1,st.ev p.2)) (ps.map fun p=>(p.1,cev tmps p.2)):=by
 induction ps with
 | nil=>exact .nil
 | cons p ps ih=>exact .cons _ _ _ _ _ (xe h _) ih
omit [Gl] in
theorem TR.append {E:Env} {w:World} {xs ys:List AV} {us vs:Array Value} (a:TR E w xs us) (b:TR E w ys vs):TR E w (xs ++ ys) (us ++ vs):=by
 refine ⟨by simp [a.size,b.size],fun i hi hj => ?_⟩
 rcases Nat.lt_or_ge i xs.length with hl | hl
 ·rw [List.getElem_append_left hl,Array.getElem_append_left (a.size ▸ hl)]
  exact a.val i hl _
 ·rw [List.getElem_append_right hl,Array.getElem_append_right (a.size ▸ hl)]
  have e:i - xs.length=i - us.size:=by rw [a.size]
  simp only [e]
  exact b.val _ _ _
omit [Gl] in
theorem jbL {f:FuncId} (hok:uT P f) (vs:Array Value) (w:World):(callFunc f vs).run P w=.ok (.enter f vs) w:=by
 obtain ⟨fn,h1,h2,h3⟩:=hok.ok
 have h2':¬ fn.body=none:=by intro e;rw [e] at h2;cases h2
 have h3':¬ fn.name = "runtime.NumGoroutine" := by simpa using h3
 simp [callFunc,h1,h2',h3']
omit [Gl] in
theorem ybL {sz i j i' j':Nat} (h:j < sz) (h':j' < sz) (e:i * sz + j=i' * sz + j'):i=i'∧j=j':=by
 have h0:0 < sz:=by omega
 have e1:(i * sz + j) / sz=i:=by rw [Nat.mul_comm,Nat.mul_add_div h0,Nat.div_eq_of_lt h,Nat.add_zero]
 have e2:(i' * sz + j') / sz=i':=by rw [Nat.mul_comm,Nat.mul_add_div h0,Nat.div_eq_of_lt h',Nat.add_zero]
 have e3:i=i':=by rw [← e1,e,e2]
 subst e3
 exact ⟨rfl,by omega⟩
theorem ubS (hT:wc P T) {h:Heap} {E:Env} {w:World} {K:AV→Heap→Prop} (hr:HR E w h) {op:BinOp} {t:TypeId} {ox oy:Operand} {x y r:AV} {vx vy:Value} (hx:VR E w x vx) (hy:VR E w y vy)
  (hb:yac T h op t x y=some r) (hk:K r h):VOK P h E w (qah op t ox oy vx vy) K:=by
 unfold yac vaF at hb
 split at hb
 ·cases hb
 rename_i ti ht
 split at hb
 rotate_left
 ·cases hb
 rename_i el hd
 split at hb
 ·cases hb
 rename_i ei hei
 split at hb
 ·cases hb
 rename_i hz
 rw [Nat.blt_eq] at hz
 split at hb
 rotate_left
 ·cases hb
 rename_i b i j b' i' j'
 split at hb
 rotate_left
 ·cases hb
 rename_i rs rs' hbl hbl'
 have hu:(underlying t).run P w=.ok (.pointer el) w:=by rw [jf hT ht,hd]
 have hs:(sizeOf el).run P w=.ok ei.size w:=zq hT hei
 have hz':¬ ei.size=0:=by omega
 obtain ⟨d',hd'⟩:∃ d',Op.maxDepth=d' + 1:=⟨9999,rfl⟩
 have heq:∀ a b,Op.equal t a b=Op.equalIn (d' + 1) t a b:=fun a b=>by unfold Op.equal;rw [hd']
 obtain ⟨Ls,l1,l2⟩:=hr.rows b rs false false hbl
 obtain ⟨L,rfl⟩:=l2.one rfl
 obtain ⟨Ls',l1',l2'⟩:=hr.rows b' rs' false false hbl'
 obtain ⟨L',rfl⟩:=l2'.one rfl
 cases hx with
 | ptr _ _ _ a ha =>
 cases hy with
 | ptr _ _ _ a' ha' =>
 obtain ⟨L0,hL0,hi,hj,rfl⟩:=ha _ l1
 obtain rfl:L0=L:=by simpa using hL0
 obtain ⟨L1,hL1,hi',hj',rfl⟩:=ha' _ l1'
 obtain rfl:L1=L':=by simpa using hL1
 obtain ⟨arr,ae,c1,_,_⟩:=(l2.all L0 (by simp)).lies
 obtain ⟨arr',ae',c1',_,_⟩:=(l2'.all L1 (by simp)).lies
 have key:(sameAddr ⟨L0.blk,L0.off + i * L0.sz + j,none⟩ ⟨L1.blk,L1.off + i' * L1.sz + j',none⟩).run P w=.ok (Nat.beq b b' && Nat.beq i i' && Nat.beq j j') w:=by
  by_cases hbb:b=b'
  ·subst hbb
   rw [l1] at l1'
   injection l1' with l1'
   injection l1' with l1' _
   subst l1'
   have e:((⟨L0.blk,L0.off + i * L0.sz + j,none⟩:Addr) == ⟨L0.blk,L0.off + i' * L0.sz + j',none⟩)=(Nat.beq b b && Nat.beq i i' && Nat.beq j j'):=by
    rw [Bool.eq_iff_iff]
    simp only [Bool.and_eq_true,Nat.beq_eq,beq_iff_eq,Addr.mk.injEq,true_and,and_true]
    constructor
    ·intro e
     exact ybL hj hj' (by omega)
    ·rintro ⟨rfl,rfl⟩;rfl
   simp only [sameAddr]
   simp [e]
  ·have hne:L0.blk≠L1.blk:=hr.apart b b' _ _ L0 L1 hbb l1 l1' (by simp) (by simp) ((l2.all L0 (by simp)).own rfl)
   have e:(Nat.beq b b' && Nat.beq i i' && Nat.beq j j')=false:=by
    have:Nat.beq b b'=false:=by rw [← Bool.not_eq_true,Nat.beq_eq];exact hbb
    rw [this];rfl
   rw [e]
   have f1:∀ (a:Addr) (w':World),(Sem.frozen a Sem.pure).run P w'=.ok (w'.frozen? a) w':=fun _ _=>rfl
   have f2:∀ (a:Nat) (w':World),(Sem.shape a Sem.pure).run P w'=.ok (w'.shape? a) w':=fun _ _=>rfl
   simp [sameAddr,hne,noView,viewAt,mayBeOne,stringish,shape,frozen,f1,f2,World.shape?,World.frozen?,c1,c1']
 have hg:∀ op,(eqGuard op t ox oy (.pointer (some ⟨L0.blk,L0.off + i * L0.sz + j,none⟩)) (.pointer (some ⟨L1.blk,L1.off + i' * L1.sz + j',none⟩))).run P w=.ok () w:=fun op=>by
  cases op <;> simp [eqGuard]
 split at hb <;> first | (cases hb;done) | skip
 ·injection hb with hb;subst hb
  exact .bind_guard (hg _) (.bool hr (by simp [binOp,heq,Op.equalIn,hu,hs,hz',key]) hk)
 ·injection hb with hb;subst hb
  exact .bind_guard (hg _) (.bool hr (by simp [binOp,heq,Op.equalIn,hu,hs,hz',key]) hk)
theorem jbS (hT:wc P T) {h:Heap} {E:Env} {w:World} {K:AV→Heap→Prop} (hr:HR E w h) {op:BinOp} {t:TypeId} {ox oy:Operand} {x y r:AV} {vx vy:Value} (hx:VR E w x vx) (hy:VR E w y vy)
  (hb:yap T op t ox oy x y=some r) (hk:K r h):VOK P h E w (qah op t ox oy vx vy) K:=by
 unfold yap at hb
 split at hb
 ·cases hb
 ·rename_i ti ht
  split at hb
  ·rename_i ms hd
   have hu:(underlying t).run P w=.ok (.interface ms) w:=by rw [jf hT ht,hd]
   obtain ⟨d',hd'⟩:∃ d',Op.maxDepth=d' + 1:=⟨9999,rfl⟩
   have heq:∀ a b,Op.equal t a b=Op.equalIn (d' + 1) t a b:=fun a b=>by unfold Op.equal;rw [hd']
   split at hb
   ·cases hb
   ·rename_i hc
    rw [Bool.or_eq_true] at hc
    have con:∀ o:Operand,war o=true→∃ v,o=.const v:=fun o ho=>by cases o <;> simp [war] at ho;exact ⟨_,rfl⟩
    split at hb
    ·cases hx;cases hy
     have hg:∀ op,(eqGuard op t ox oy .nilIface .nilIface).run P w=.ok () w:=fun op=>by
      rcases hc with hc | hc
      ·obtain ⟨v,rfl⟩:=con _ hc
       cases op <;> simp [eqGuard]
      ·obtain ⟨v,rfl⟩:=con _ hc
       cases op <;> simp [eqGuard]
     split at hb <;> first | (cases hb;done) | skip
     ·injection hb with hb;subst hb
      exact .bind_guard (hg _) (.bool hr (by simp [binOp,heq,Op.equalIn,hu]) hk)
     ·injection hb with hb;subst hb
      exact .bind_guard (hg _) (.bool hr (by simp [binOp,heq,Op.equalIn,hu]) hk)
    ·cases hx
     cases hy with
     | ifc _ _ v' hv' =>
      have hg:∀ op t',(eqGuard op t ox oy .nilIface (.iface t' v')).run P w=.ok () w:=fun op t'=>by
       cases op <;> simp [eqGuard]
      split at hb <;> first | (cases hb;done) | skip
      ·injection hb with hb;subst hb
       exact .bind_guard (hg _ _) (.bool hr (by simp [binOp,heq,Op.equalIn,hu]) hk)
      ·injection hb with hb;subst hb
       exact .bind_guard (hg _ _) (.bool hr (by simp [binOp,heq,Op.equalIn,hu]) hk)
    ·cases hy
     cases hx with
     | ifc _ _ v' hv' =>
      have hg:∀ op t',(eqGuard op t ox oy (.iface t' v') .nilIface).run P w=.ok () w:=fun op t'=>by
       cases op <;> simp [eqGuard]
      split at hb <;> first | (cases hb;done) | skip
      ·injection hb with hb;subst hb
       exact .bind_guard (hg _ _) (.bool hr (by simp [binOp,heq,Op.equalIn,hu]) hk)
      ·injection hb with hb;subst hb
       exact .bind_guard (hg _ _) (.bool hr (by simp [binOp,heq,Op.equalIn,hu]) hk)
    ·cases hb
  ·cases hb
theorem jb5 {h:Heap} {f:AV} {args:List AV} {K:AV→Heap→Prop} {s:World→Env→Sem Next→Prop} (hb:uo P h f args K) (hlf:Lt h.blks.length h.loops.length f) (hla:∀ x∈args,Lt h.blks.length h.loops.length x)
  (hs:∀ w E t,s w E t→∃ vf vs,VR E w f vf∧TR E w args vs∧t=(do let d ← Deferred.ofValue vf vs;invoke d.target d.args:Sem Next)):GivesSem P h s K:=by
 unfold uo at hb
 split at hb
 ·rename_i g first cap
  refine ⟨fun E w t h1 h2 c cs h3 => ?_⟩
  obtain ⟨vf,vs,hf,ha,rfl⟩:=hs w E t h2
  cases hf with
  | fn _ _ _ va vc e1 e2 v1 v2 =>
   rcases hb with hb | ⟨r,hb,hk⟩
   case inr =>
    have hargs:TR E w (first ++ args ++ cap) (va ++ vs ++ vc):=(TR.append ⟨e1,v1⟩ ha).append ⟨e2,v2⟩
    obtain ⟨v,hrun,hv⟩:=hb.run E w _ hargs
    refine ⟨r,h,E,w,v,hk,hv,h1,hb.pure.lt _ _,Nat.le_refl _,Nat.le_refl _,.refl ..,.one (vaw h3 ?_)⟩
    rw [Array.append_assoc] at hrun
    simp [Deferred.ofValue,invoke,hrun]
   have hrun:(do let d ← Deferred.ofValue (.func (.func g) va vc) vs;invoke d.target d.args:Sem Next).run P w=.ok (.enter g (va ++ vs ++ vc)) w:=by
    simp [Deferred.ofValue,invoke,jbL hb.ok]
   have hargs:TR E w (first ++ args ++ cap) (va ++ vs ++ vc):=(TR.append ⟨e1,v1⟩ ha).append ⟨e2,v2⟩
   have hlt:∀ x∈first ++ args ++ cap,Lt h.blks.length h.loops.length x:=fun x hx=>by
    simp only [List.mem_append] at hx
    cases hlf with
    | fn _ _ _ l1 l2 =>
     rcases hx with (hx | hx) | hx
     ·obtain ⟨i,hi,rfl⟩:=List.getElem_of_mem hx;exact l1 i hi
     ·exact hla x hx
     ·obtain ⟨i,hi,rfl⟩:=List.getElem_of_mem hx;exact l2 i hi
   obtain ⟨r,h',E',w',v,fr,k,s1,s2,s3,s4,s5,s6,s7,s8,s9⟩:=hb.run E w _ h1 hargs hlt (c :: cs)
   exact ⟨r,h',E',w',v,k,s1,s2,s3,s4,s5,s6,.head (ycg h3 hrun) (s7.trans (.one (step_leave_returned s9)))⟩
 ·rename_i l
  refine ⟨fun E w t h1 h2 c cs h3 => ?_⟩
  obtain ⟨vf,vs,hf,ha,rfl⟩:=hs w E t h2
  cases hf with
  | yld _ fv va vc hv =>
   have hl:=hb.1
   split at hl
   ·rename_i r hlr
    obtain ⟨o,ho,_⟩:=h1.loops l r hlr
    obtain ⟨rfl,rfl,rfl⟩:=hv o ho
    refine hb.2.run E w _ h1 ⟨o,vs,ho,ha,hla,rfl⟩ c cs ?_
    have e:(do let d ← Deferred.ofValue (.func (.yield o) #[] #[]) vs;invoke d.target d.args:Sem Next)=Instr.yield o vs:=by
     simp [Deferred.ofValue,invoke]
    rw [← e];exact h3
   ·exact hl.elim
 ·exact hb.elim
theorem vao (hT:wc P T) {st:St} {o:Oper} {K:AV→Heap→Prop} (hb:opW P T st o K):zbz P o st K:=by
 rintro ⟨hnd,hlt⟩
 have hev:=fun x=>yag hlt x
 obtain ⟨dst,op,type,pos,after,guard⟩:=o
 unfold opW at hb
 split at hb
 all_goals try (exact (hb:False).elim)
 all_goals (rename_i hop;simp only at hop;subst hop)
 ·
  refine gae (fun E w t hr ⟨tmps,ht,e⟩=>⟨_,.inl ?_,xe ht _⟩) (hev _) hb
  subst e;simp [execOp]
 ·refine gae (fun E w t hr ⟨tmps,ht,e⟩=>⟨_,.inl ?_,xe ht _⟩) (hev _) hb
  subst e;simp [execOp]
 ·
  rename_i c a b
  split at hb
  ·rename_i b' hc
   cases b' with
   | true =>
    refine gae (fun E w t hr ⟨tmps,ht,e⟩=>⟨_,.inl ?_,xe ht a⟩) (hev _) hb
    have:=xe ht c
    rw [hc] at this
    have hv:=this.bool_inv
    subst e;simp [execOp,hv,asBool]
   | false =>
    refine gae (fun E w t hr ⟨tmps,ht,e⟩=>⟨_,.inl ?_,xe ht b⟩) (hev _) hb
    have:=xe ht c
    rw [hc] at this
    have hv:=this.bool_inv
    subst e;simp [execOp,hv,asBool]
  ·exact hb.elim
 ·exact yl fun E w t hr ⟨tmps,ht,e⟩=>⟨_,e,wbV hT hr hb⟩
 ·exact yl fun E w t hr ⟨tmps,ht,e⟩=>⟨_,e,gbU hr (xe ht _) (hev _) hb⟩
 ·
  rename_i t ps
  split at hb
  ·rename_i r hr'
   refine yl fun E w _ hr ⟨tmps,ht,e⟩=>⟨_,e,qbU hT hr (ps:=ps.toList.map fun p=>(p.1,st.ev p.2)) ?_ (fun p hp => ?_) hr' hb⟩
   ·have:=yba ht ps.toList
    simpa using this
   ·obtain ⟨q,_,rfl⟩:=List.mem_map.1 hp;exact hev _
  ·exact hb.elim
 ·rename_i t n ps
  refine yl fun E w _ hr ⟨tmps,ht,e⟩=>⟨_,e,jbU hT hr (ps:=ps.toList.map fun p=>(p.1,st.ev p.2)) ?_ (fun p hp => ?_) hb⟩
  ·have:=yba ht ps.toList
   simpa using this
  ·obtain ⟨q,_,rfl⟩:=List.mem_map.1 hp;exact hev _
 ·split at hb
  ·rename_i r hr'
   exact yl fun E w _ hr ⟨tmps,ht,e⟩=>⟨_,e,xbT hT hr (xe ht _) (hev _) hr' hb⟩
  ·exact hb.elim
 ·
  rename_i t a x
  split at hb
  ·rename_i h' hs
   refine ⟨fun E w t' h1 ⟨tmps,ht,e⟩ c cs h3 => ?_⟩
   obtain ⟨E',w',r1,r2,r3,r4,r5⟩:=wbS (P:=P) hT h1 (xe ht a) (xe ht x) (hev _) hs
   refine ⟨.junk,h',E',w',undef,hb,.junk _,r2,.junk,Nat.le_of_eq r4.symm,Nat.le_of_eq r5.symm,r3,.one (uaw h3 ?_)⟩
   subst e;simp [execOp,r1]
  ·exact hb.elim
 ·
  rename_i x
  refine ⟨fun E w t' h1 ⟨tmps,ht,e⟩ c cs h3 => ?_⟩
  obtain ⟨r,k,v1,v2,v3⟩:=qbS (K1:=fun r=>K r st.h) h1 (xe ht x) (hev x) hb
  refine ⟨r,st.h,E,w,cev tmps x,k,v1,h1,v2,Nat.le_refl _,Nat.le_refl _,.refl ..,.one (vaw h3 ?_)⟩
  subst e
  simp only [execOp]
  revert v3
  generalize cev tmps x=v
  intro v3
  unfold ubd at v3
  split <;> first | (exact v3.elim) | rfl
 ·rcases hb with hb | ⟨r,hb | hb,hk⟩
  ·exact yl fun E w _ hr ⟨tmps,ht,e⟩=>⟨_,e,zbV hT hr (xe ht _) (xe ht _) hb⟩
  ·exact yl fun E w _ hr ⟨tmps,ht,e⟩=>⟨_,e,jbS hT hr (xe ht _) (xe ht _) hb hk⟩
  ·exact yl fun E w _ hr ⟨tmps,ht,e⟩=>⟨_,e,ubS hT hr (xe ht _) (xe ht _) hb hk⟩
 ·split at hb
  ·rename_i r hr'
   exact yl fun E w _ hr ⟨tmps,ht,e⟩=>⟨_,e,ybS hr (xe ht _) hr' hb⟩
  ·exact hb.elim
 ·rcases hb with hb | hb
  ·exact yl fun E w _ hr ⟨tmps,ht,e⟩=>⟨_,e,ubU hT hr (xe ht _) hb⟩
  ·exact yl fun E w _ hr ⟨tmps,ht,e⟩=>⟨_,e,vbU hT hr (xe ht _) hb⟩
 ·
  rename_i f a c
  have hl:Lt st.h.blks.length st.h.loops.length (.fn f (a.toList.map st.ev) (c.toList.map st.ev)) :=
   .fn _ _ _ (fun i hi=>yaL hlt _ _ (List.getElem_mem hi)) (fun i hi=>yaL hlt _ _ (List.getElem_mem hi))
  refine gae (fun E w t' hr ⟨tmps,ht,e⟩=>⟨.func f (a.map (cev tmps)) (c.map (cev tmps)),.inl ?_,?_⟩) hl hb
  ·subst e;simp [execOp,Instr.makeFunc]
  ·have h1:=zaL ht a
   have h2:=zaL ht c
   exact .fn _ _ _ _ _ h1.size h2.size h1.val h2.val
 ·exact yl fun E w _ hr ⟨tmps,ht,e⟩=>⟨_,e,zbT hT hr (xe ht _) (xe ht _) hb⟩
 ·
  rename_i t x lo hi mx
  have ov:∀ (E:Env) (w:World) (tmps:Array Value),TR E w st.tmps tmps→∀ o:Option Operand,OVR E w (o.map st.ev) (o.map (cev tmps)):=fun E w tmps ht o=>by
   cases o with
   | none=>exact .none
   | some o=>exact .some _ _ (xe ht o)
  refine yl fun E w _ hr ⟨tmps,ht,e⟩=>⟨_,e,?_⟩
  have hs:=vbS (P:=P) hT hr (xe ht x) (ov E w tmps ht lo) (ov E w tmps ht hi) (ov E w tmps ht mx) (hev x) hb
  obtain ⟨r,h',E',w',v,h1,rest⟩:=hs
  refine ⟨r,h',E',w',v,?_,rest⟩
  have hd:∃ ti,T t=some ti∧((∃ e',ti.desc=.slice e')∨ti.desc=.string):=by
   unfold vr at hb
   split at hb
   ·exact hb.elim
   ·rename_i ti hti
    refine ⟨ti,hti,?_⟩
    split at hb
    ·rename_i hd _;exact .inr hd
    ·rename_i hd _;exact .inl ⟨_,hd⟩
    ·rename_i hd _;exact .inl ⟨_,hd⟩
    ·rename_i hd _;exact .inl ⟨_,hd⟩
    ·exact hb.elim
  obtain ⟨ti,hti,hna⟩:=hd
  rcases hna with ⟨e',hd⟩ | hd <;> simp only [Instr.sliceAt,Sem.run_bind,jf hT hti,Result.andThen_ok,hd] <;> exact h1
 ·split at hb
  ·rename_i r hr'
   exact yl fun E w _ hr ⟨tmps,ht,e⟩=>⟨_,e,zbU hT hr (xe ht _) (hev _) hr' hb⟩
  ·exact hb.elim
 ·split at hb
  ·rename_i r hr'
   exact yl fun E w _ hr ⟨tmps,ht,e⟩=>⟨_,e,ybU hT hr (xe ht _) (hev _) hr' hb⟩
  ·exact hb.elim
 ·exact yl fun E w _ hr ⟨tmps,ht,e⟩=>⟨_,e,qbT hT hr (xe ht _) (xe ht _) (hev _) hb⟩
 ·exact yl fun E w _ hr ⟨tmps,ht,e⟩=>⟨_,e,gbT hT hr (xe ht _) (xe ht _) (hev _) hb⟩
 ·
  rename_i x i
  split at hb
  ·rename_i cs hx
   split at hb
   ·rename_i r hr'
    refine yl fun E w _ hr ⟨tmps,ht,e⟩=>⟨_,e,?_⟩
    have:=xe ht x
    rw [hx] at this
    have hl:=hev x
    rw [hx] at hl
    exact xbU (x:=.junk) hr this hl hr' hb
   ·exact hb.elim
  ·exact hb.elim
 ·exact yl fun E w _ hr ⟨tmps,ht,e⟩=>⟨_,by simpa [execOp] using e,gbS hr hb⟩
 ·exact yl fun E w _ hr ⟨tmps,ht,e⟩=>⟨_,e,ybT hT hr (xe ht _) (xe ht _) hb⟩
 ·rename_i t m k x
  refine ⟨fun E w t' h1 ⟨tmps,ht,e⟩ c cs h3 => ?_⟩
  obtain ⟨h',w',r1,r2,r3,r4,r5,r6⟩:=xbc (P:=P) hT h1 (xe ht m) (xe ht k) (xe ht x) (hev _) hb
  refine ⟨.junk,h',E,w',undef,r2,.junk _,r3,.junk,Nat.le_of_eq r5.symm,Nat.le_of_eq r6.symm,r4,.one (uaw h3 ?_)⟩
  subst e;simp [execOp,r1]
 ·rename_i t m k x
  refine ⟨fun E w t' h1 ⟨tmps,ht,e⟩ c cs h3 => ?_⟩
  obtain ⟨h',w',r1,r2,r3,r4,r5,r6⟩:=xbc (P:=P) hT h1 (xe ht m) (xe ht k) (xe ht x) (hev _) hb
  refine ⟨.junk,h',E,w',undef,r2,.junk _,r3,.junk,Nat.le_of_eq r5.symm,Nat.le_of_eq r6.symm,r4,.one (uaw h3 ?_)⟩
  subst e;simp [execOp,r1]
 ·
  rename_i c
  unfold ve at hb
  have arr1:∀ {α:Type} {a:Array α} {x:α},a.toList=[x]→a = #[x]:=fun {_ a _} h=>by rw [← Array.toArray_toList (xs:=a),h]
  have arr2:∀ {α:Type} {a:Array α} {x y:α},a.toList=[x,y]→a = #[x,y]:=fun {_ a _ _} h=>by rw [← Array.toArray_toList (xs:=a),h]
  obtain ⟨callee,args,argTypes⟩:=c
  simp only at hb
  split at hb
  ·
   split at hb
   ·rename_i t x e1 e2
    obtain rfl:=arr1 e1
    obtain rfl:=arr1 e2
    refine yl fun E w _ hr ⟨tmps,ht,e⟩=>⟨_,?_,wbT (ty:=type) hT hr (xe ht x) hb⟩
    subst e
    simp [execOp,resolve,invoke,builtin]
   ·exact hb.elim
  ·
   split at hb
   ·rename_i t u s x e1 e2
    obtain rfl:=arr2 e1
    obtain rfl:=arr2 e2
    split at hb
    ·rename_i ti ui hti hui
     obtain ⟨⟨hnu,hsz⟩,hb⟩:=hb
     refine yl fun E w _ hr ⟨tmps,ht,e⟩=>⟨_,?_,(xbV (ty:=type) hT hr hui hnu (xe ht s) (xe ht x) (hev s) (hev x) hb ?_).move⟩
     ·subst e
      simp [execOp,resolve,invoke,builtin]
     ·rintro ti' e' ei h1 h2 h3 ⟨a,ha⟩
      rw [hti] at h1;injection h1 with h1;subst h1
      rw [h2] at hsz
      simp only [h3,ha] at hsz
      exact hsz
    ·exact hb.elim
   ·exact hb.elim
  ·
   split at hb
   ·rename_i x y e2
    obtain rfl:=arr2 e2
    split at hb
    ·rename_i k a k' b hx hy
     obtain ⟨rfl,hk⟩:=hb
     refine yl fun E w _ hr ⟨tmps,ht,e⟩=>⟨Builtin.max_ argTypes type #[cev tmps x,cev tmps y],?_,?_⟩
     ·subst e
      simp [execOp,resolve,invoke,builtin]
     ·have h1:=xe ht x
      have h2:=xe ht y
      rw [hx] at h1;rw [hy] at h2
      revert h1 h2
      generalize cev tmps x=vx
      generalize cev tmps y=vy
      intro h1 h2
      cases h1;cases h2
      refine .int hr ?_ hk
      have e:max a b=if b > a then b else a:=by rw [Int.max_def];split <;> split <;> omega
      simp [Builtin.max_,Builtin.max2,e]
    ·exact hb.elim
   ·exact hb.elim
  ·
   split at hb
   ·rename_i x y e2
    obtain rfl:=arr2 e2
    split at hb
    ·rename_i k a k' b hx hy
     obtain ⟨rfl,hk⟩:=hb
     refine yl fun E w _ hr ⟨tmps,ht,e⟩=>⟨Builtin.min_ argTypes type #[cev tmps x,cev tmps y],?_,?_⟩
     ·subst e
      simp [execOp,resolve,invoke,builtin]
     ·have h1:=xe ht x
      have h2:=xe ht y
      rw [hx] at h1;rw [hy] at h2
      revert h1 h2
      generalize cev tmps x=vx
      generalize cev tmps y=vy
      intro h1 h2
      cases h1;cases h2
      refine .int hr ?_ hk
      have e:min a b=if b < a then b else a:=by rw [Int.min_def];split <;> split <;> omega
      simp [Builtin.min_,Builtin.min2,e]
    ·exact hb.elim
   ·exact hb.elim
  ·
   split at hb
   ·rename_i t u d x e1 e2
    obtain rfl:=arr2 e1
    obtain rfl:=arr2 e2
    refine yl fun E w _ hr ⟨tmps,ht,e⟩=>⟨_,?_,wbU (ty:=type) (u:=u) hT hr (xe ht d) (xe ht x) (hev d) (hev x) hb⟩
    subst e
    simp [execOp,resolve,invoke,builtin]
   ·exact hb.elim
  ·rename_i f
   refine jb5 hb (hev f) (yaL hlt _) fun w E t ⟨tmps,ht,e⟩=>⟨cev tmps f,args.map (cev tmps),xe ht f,zaL ht _,?_⟩
   subst e
   simp only [execOp,resolve]
  ·exact hb.elim
end sound
end
end Go.Abs

namespace Go.Abs
noncomputable section
variable [Gl]
section sound
variable {P:Program} {T:Tab} {n m:Nat} {rnd:Option Nat}
theorem uao {st:St} {o:Oper} {K:AV→Heap→Prop} (h:opW P T st o K):∀ c,o.op≠.defer c:=by
 intro c hc
 unfold opW at h
 rw [hc] at h
 exact h
def wz:List AV→AV
 | [x]=>x
 | l=>.tup l
def gv (T:Tab) (s:St):List ResultVar→Option (List AV)
 | []=>some []
 | .tmp t :: r =>
  match gv T s r with
  | some l=>some (s.tmps.getD t .junk :: l)
  | none=>none
 | .cell a t :: r =>
  match qC T s.h t (s.tmps.getD a .junk),gv T s r with
  | some x,some l=>some (x :: l)
  | _,_=>none
theorem gbY (hT:wc P T) {E:Env} {w:World} {h:Heap} (hr:HR E w h) {t:TypeId} {x r:AV} {v:Value} (hv:VR E w x v) (hl:Lt h.blks.length h.loops.length x) (hx:qC T h t x=some r) :
  ∃ a v',v=.pointer (some a)∧(loadVar t a).run P w=.ok v' w∧VR E w r v'∧Lt h.blks.length h.loops.length r:=by
 unfold qC at hx
 split at hx
 ·cases hx
 ·rename_i ti ht
  split at hx
  ·rename_i b i j
   split at hx
   ·rename_i rs g fz hb
    obtain ⟨row,hrow,hp⟩:=Option.bind_eq_some_iff.1 hx
    obtain ⟨B,o,rfl,hc⟩:=va8 hr hv hb hrow
    obtain ⟨v',hv1,hv2⟩:=gW hT ht hc hp
    exact ⟨_,v',rfl,hv1,hv2,jM hp fun y hy=>hr.lt.blks b _ hb row (List.mem_of_getElem? hrow) y hy⟩
   ·cases hx
  ·rename_i row j
   obtain ⟨B,o,rfl,hc⟩:=waZ hv
   obtain ⟨v',hv1,hv2⟩:=gW hT ht hc hx
   refine ⟨_,v',rfl,hv1,hv2,jM hx fun y hy => ?_⟩
   cases hl with | vp _ _ hl=>obtain ⟨i,hi,rfl⟩:=List.getElem_of_mem hy;exact hl i hi
  ·obtain ⟨row,hg,hp⟩:=Option.bind_eq_some_iff.1 hx
   obtain ⟨rfl,hc,hlt⟩:=xbn hr hv hg
   obtain ⟨v',hv1,hv2⟩:=gW hT ht hc hp
   exact ⟨_,v',rfl,hv1,hv2,jM hp (hlt _ _)⟩
  ·cases hx
def xab (tmps:Array Value):ResultVar→Sem Value
 | .tmp t=>pure (tmps.getD t undef)
 | .cell a t=>do loadVar t (← asAddr (tmps.getD a undef))
theorem gaD (hT:wc P T) {s:St} {E:Env} {w:World} {tmps:Array Value} (hs:StR E w s tmps):∀ (rs:List ResultVar) (l:List AV),gv T s rs=some l →
  ∃ vs:List Value,(rs.mapM (xab tmps)).run P w=.ok vs w∧l.length=vs.length ∧
   (∀ (i:Nat) (hi:i < l.length) (hj:i < vs.length),VR E w l[i] vs[i])∧∀ x∈l,Lt s.h.blks.length s.h.loops.length x
 | [],l,h=>by
  simp only [gv,Option.some.injEq] at h
  subst h
  exact ⟨[],by simp,rfl,fun i hi=>by simp at hi,fun x hx=>by simp at hx⟩
 | .tmp t :: rs,l,h=>by
  simp only [gv] at h
  split at h
  ·rename_i l' hl'
   injection h with h;subst h
   obtain ⟨vs,h1,h2,h3,h4⟩:=gaD hT hs rs l' hl'
   refine ⟨tmps.getD t undef :: vs,?_,by simp [h2],fun i hi hj => ?_,fun x hx => ?_⟩
   ·simp only [List.mapM_cons,xab,Sem.run_bind,Sem.run_pure,Result.andThen_ok,h1]
   ·cases i with
    | zero=>exact hs.tmps.getD t
    | succ i=>exact h3 i (by simpa using hi) (by simpa using hj)
   ·rcases List.mem_cons.1 hx with rfl | hx
    ·exact yag hs.lt (.tmp t)
    ·exact h4 x hx
  ·cases h
 | .cell a t :: rs,l,h=>by
  simp only [gv] at h
  split at h
  ·rename_i x l' hx hl'
   injection h with h;subst h
   obtain ⟨vs,h1,h2,h3,h4⟩:=gaD hT hs rs l' hl'
   obtain ⟨ad,v',e1,e2,e3,e4⟩:=gbY (P:=P) hT hs.heap (hs.tmps.getD a) (yag hs.lt (.tmp a)) hx
   refine ⟨v' :: vs,?_,by simp [h2],fun i hi hj => ?_,fun y hy => ?_⟩
   ·simp only [List.mapM_cons,xab,Sem.run_bind,e1,asAddr,Sem.run_pure,Result.andThen_ok,e2,h1]
   ·cases i with
    | zero=>exact e3
    | succ i=>exact h3 i (by simpa using hi) (by simpa using hj)
   ·rcases List.mem_cons.1 hy with rfl | hy
    ·exact e4
    ·exact h4 y hy
  ·cases h
theorem uam (hT:wc P T) {fn:Func} {s:St} {l:List AV} (h:gv T s fn.results.toList=some l):gby P fn s (wz l):=by
 refine ⟨fun E w tmps hs => ?_⟩
 obtain ⟨vs,h1,h2,h3,h4⟩:=gaD (P:=P) hT hs _ l h
 have he:results fn tmps=(do let vs ← fn.results.mapM (xab tmps);pure (if h:vs.size=1 then vs[0] else .tuple vs)):=by
  unfold results
  congr 1
 have hm:(fn.results.mapM (xab tmps)).run P w=.ok vs.toArray w:=by
  rw [Array.mapM_eq_mapM_toList]
  simp only [Sem.run_map,h1,Result.andThen_ok]
 have htup:l.length≠1→VR E w (wz l) (.tuple vs.toArray)∧Lt s.h.blks.length s.h.loops.length (wz l)∧wz l=.tup l:=by
  intro hne
  have e:wz l=.tup l:=by
   unfold wz
   split
   ·simp at hne
   ·rfl
  rw [e]
  exact ⟨.tup _ _ (by simpa using h2) fun i hi hj=>by simpa using h3 i hi (by simpa using hj),.tup _ fun i hi=>h4 _ (List.getElem_mem hi),rfl⟩
 by_cases hl:l.length=1
 ·obtain ⟨x,rfl⟩:=List.length_eq_one_iff.1 hl
  obtain ⟨v,rfl⟩:=List.length_eq_one_iff.1 (h2 ▸ hl)
  refine ⟨v,?_,h3 0 (by simp) (by simp),h4 x (by simp)⟩
  simp only [he,Sem.run_bind,hm,Result.andThen_ok]
  simp
 ·obtain ⟨a,b,_⟩:=htup hl
  refine ⟨.tuple vs.toArray,?_,a,b⟩
  simp only [he,Sem.run_bind,hm,Result.andThen_ok]
  have:¬ vs.toArray.size=1:=by simpa using h2 ▸ hl
  rw [dif_neg this]
  rfl
def w5 (T:Tab) (fn:Func) (K:AV→Heap→Prop):gb→St→Prop
 | .normal,s=>(match gv T s fn.results.toList with | some l=>K (wz l) s.h | none=>False)
 | .jump .ret,s=>(match gv T s fn.results.toList with | some l=>K (wz l) s.h | none=>False)
 | _,_=>False
end sound
end
end Go.Abs

namespace Go.Abs
noncomputable section
variable [Gl]
section force
variable {R α:Type}
def wb8 (n:Nat) (k:Nat→Option R):Option R:=k n
noncomputable def gc (n:Nat) (k:Nat→Option R):Option R:=Nat.rec (motive:=fun _=>Option R) (k Nat.zero) (fun p _=>k (Nat.succ p)) n
omit [Gl] in
theorem qd (n:Nat) (k:Nat→Option R):gc n k=k n:=by cases n <;> rfl
def xO (i:Int) (k:Int→Option R):Option R:=match i with | .ofNat m=>gc m (fun m=>k (.ofNat m)) | .negSucc m=>gc m (fun m=>k (.negSucc m))
theorem yO (n:Int) (k:Int→Option R):xO n k=k n:=by cases n <;> simp [xO,qd]
def xbq:List α→(List α→Option R)→Option R
 | [],k=>k []
 | a :: r,k=>xbq r (fun r'=>k (a :: r'))
noncomputable def wh (l:List α):(List α→Option R)→Option R :=
  List.rec (motive:=fun _=>(List α→Option R)→Option R) (fun k=>k []) (fun a _ ih k=>ih (fun r'=>k (a :: r'))) l
omit [Gl] in
theorem qe:∀ (l:List α) (k:List α→Option R),wh l k=k l
 | [],_=>rfl
 | a :: r,k=>by rw [show wh (a :: r) k=wh r (fun r'=>k (a :: r')) from rfl,qe r]
def wbq (b:Bool) (k:Bool→Option R):Option R:=match b with | true=>k true | false=>k false
omit [Gl] in
theorem jb8 (n:Bool) (k:Bool→Option R):wbq n k=k n:=by cases n <;> rfl
def xbZ (l:List α) (n:Nat):Bool:=l.length == n
noncomputable def zD (l:List α):Nat→Bool :=
  List.rec (motive:=fun _=>Nat→Bool) (fun n=>Nat.rec (motive:=fun _=>Bool) true (fun _ _=>false) n) (fun _ _ ih n=>Nat.rec (motive:=fun _=>Bool) false (fun p _=>ih p) n) l
omit [Gl] in
theorem yN:∀ (l:List α) (n:Nat),zD l n=(l.length == n)
 | [],0=>rfl
 | [],n + 1=>rfl
 | a :: l,0=>rfl
 | a :: l,n + 1=>by rw [show zD (a :: l) (n + 1)=zD l n from rfl,yN l n];simp
def fAV (r:AV) (K:AV→Option R):Option R :=
 match r with
 | .junk=>K .junk
 | .bool b=>wbq b fun b=>K (.bool b)
 | .int k n=>xO n fun n=>K (.int k n)
 | .str s=>wh s fun s=>K (.str s)
 | .nilp=>K .nilp
 | .nils=>K .nils
 | .nilf=>K .nilf
 | .nili=>K .nili
 | .nilm=>K .nilm
 | .agg cs=>wh cs fun cs=>K (.agg cs)
 | .tup cs=>wh cs fun cs=>K (.tup cs)
 | .vs es c=>wh es fun es=>(match c with | none=>K (.vs es none) | some c=>gc c fun c=>K (.vs es (some c)))
 | .vp row j=>gc j fun j=>K (.vp row j)
 | .ptr b i j=>gc b fun b=>gc i fun i=>gc j fun j=>K (.ptr b i j)
 | .ms b i l c=>gc b fun b=>gc i fun i=>gc l fun l=>(match c with | none=>K (.ms b i l none) | some c=>gc c fun c=>K (.ms b i l (some c)))
 | .fn f a c=>wh a fun a=>wh c fun c=>K (.fn f a c)
 | .yld l=>K (.yld l)
 | .ifc t x=>K (.ifc t x)
 | .mp b=>K (.mp b)
 | .gp g j=>gc j fun j=>K (.gp g j)
theorem xj (r:AV) (K:AV→Option R):fAV r K=K r:=by
 cases r <;> simp only [fAV,jb8,yO,qd,qe] <;> (rename_i c;cases c <;> rfl)
def xbd:List α→Nat→Option α
 | [],_=>none
 | x :: l,n=>match n with | 0=>some x | p + 1=>xbd l p
noncomputable def zw (l:List α):Nat→Option α :=
  List.rec (motive:=fun _=>Nat→Option α) (fun _=>none) (fun x _ ih n=>Nat.rec (some x) (fun p _=>ih p) n) l
omit [Gl] in
theorem qu:∀ (l:List α) (n:Nat),zw l n=l[n]?
 | [],_=>by rw [List.getElem?_nil];rfl
 | x :: l,0=>by rw [List.getElem?_cons_zero];rfl
 | x :: l,n + 1=>by rw [List.getElem?_cons_succ,← qu l n];rfl
def ua4:List α→Nat→α→(List α→Option R)→Option R
 | [],_,_,k=>k []
 | y :: l,n,x,k=>match n with | 0=>k (x :: l) | p + 1=>ua4 l p x (fun l'=>k (y :: l'))
noncomputable def zab (l:List α):Nat→α→(List α→Option R)→Option R :=
  List.rec (motive:=fun _=>Nat→α→(List α→Option R)→Option R) (fun _ _ k=>k []) (fun y l ih n x k=>Nat.rec (k (x :: l)) (fun p _=>ih p x (fun l'=>k (y :: l'))) n) l
omit [Gl] in
theorem gaa:∀ (l:List α) (n:Nat) (x:α) (k:List α→Option R),zab l n x k=k (l.set n x)
 | [],_,_,_=>by rw [List.set_nil];rfl
 | y :: l,0,x,k=>by rw [List.set_cons_zero];rfl
 | y :: l,n + 1,x,k=>by rw [List.set_cons_succ,show zab (y :: l) (n + 1) x k=zab l n x (fun l'=>k (y :: l')) from rfl,gaa l n]
end force
def vbd:List (Option Blk)→Nat→Option Blk
 | [],_=>none
 | x :: l,n=>match n with | 0=>x | p + 1=>vbd l p
noncomputable def qaI (l:List (Option Blk)):Nat→Option Blk :=
  List.rec (motive:=fun _=>Nat→Option Blk) (fun _=>none) (fun x _ ih n=>Nat.rec x (fun p _=>ih p) n) l
omit [Gl] in
theorem wbd:∀ (l:List (Option Blk)) (n:Nat),qaI l n=(l[n]?).join
 | [],_=>by rw [List.getElem?_nil];rfl
 | x :: l,0=>by rw [List.getElem?_cons_zero];rfl
 | x :: l,n + 1=>by rw [List.getElem?_cons_succ,← wbd l n];rfl
omit [Gl] in
theorem qF {α:Type} (b:Bool) (x y:α):(Bool.rec (motive:=fun _=>α) x y b:α)=(match b with | true=>y | false=>x):=by cases b <;> rfl
inductive Tr where
 | leaf (x:Option Blk)
 | node (x:Option Blk) (l r:Tr)
 deriving Inhabited
def Tr.list:Tr→List (Option Blk)
 | .leaf x=>[x]
 | .node x l r=>x :: (l.list ++ r.list)
def Tr.has:Tr→Nat→Prop
 | .leaf _,w=>w=1
 | .node _ l r,w=>∃ h,w=2 * h + 1∧l.has h∧r.has h
omit [Gl] in
theorem Tr.len:∀ {t:Tr} {w:Nat},t.has w→t.list.length=w
 | .leaf _,w,h=>by have h:w=1:=h;rw [h];rfl
 | .node x l r,w,h=>by
  obtain ⟨k,rfl,h1,h2⟩:=h
  simp only [Tr.list,List.length_cons,List.length_append,Tr.len h1,Tr.len h2]
  omega
def zak:Tr→Nat→Nat→Option Blk
 | .leaf x,_,_=>x
 | .node x l r,w,i=>match i with
  | 0=>x
  | p + 1=>match Nat.blt p (w / 2) with
   | true=>zak l (w / 2) p
   | false=>zak r (w / 2) (p - w / 2)
noncomputable def zaa (t:Tr):Nat→Nat→Option Blk :=
  Tr.rec (motive:=fun _=>Nat→Nat→Option Blk) (fun x _ _=>x)
   (fun x _ _ ihl ihr w i=>Nat.rec x (fun p _=>gc (Nat.div w (nat_lit 2)) fun h=>Bool.rec (motive:=fun _=>Option Blk) (gc (Nat.sub p h) fun q=>ihr h q) (ihl h p) (Nat.blt p h)) i) t
omit [Gl] in
theorem uay:∀ {t:Tr} {w i:Nat},t.has w→i < w→zaa t w i=(t.list[i]?).join
 | .leaf x,w,i,h,hi=>by
  have h:w=1:=h
  obtain rfl:i=0:=by omega
  rfl
 | .node x l r,w,0,h,hi=>rfl
 | .node x l r,w,p + 1,h,hi=>by
  obtain ⟨k,rfl,h1,h2⟩:=h
  show gc ((2 * k + 1) / 2) (fun h=>(Bool.rec (motive:=fun _=>Option Blk) (gc (p - h) fun q=>zaa r h q) (zaa l h p) (Nat.blt p h):Option Blk))=_
  rw [qd,qF,show (2 * k + 1) / 2=k from by omega]
  simp only [Tr.list,List.getElem?_cons_succ]
  split
  ·rename_i hp
   rw [Nat.blt_eq] at hp
   rw [uay h1 hp,List.getElem?_append_left (by rw [Tr.len h1];exact hp)]
  ·rename_i hp
   have hp:¬ p < k:=by rw [← Nat.blt_eq,hp];exact Bool.false_ne_true
   rw [qd,uay h2 (by omega),List.getElem?_append_right (by rw [Tr.len h1];omega),Tr.len h1]
def gD:Tr→Nat→Nat→Option Blk→Tr
 | .leaf _,_,_,x=>.leaf x
 | .node y l r,w,i,x=>match i with
  | 0=>.node x l r
  | p + 1=>if p < w / 2 then .node y (gD l (w / 2) p x) r else .node y l (gD r (w / 2) (p - w / 2) x)
omit [Gl] in
theorem ua0 (y:Option Blk) (l r:Tr) (w p:Nat) (x:Option Blk):gD (.node y l r) w (p + 1) x=if p < w / 2 then .node y (gD l (w / 2) p x) r else .node y l (gD r (w / 2) (p - w / 2) x):=rfl
omit [Gl] in
theorem way:∀ {t:Tr} {w i:Nat} (x:Option Blk),t.has w→i < w→(gD t w i x).has w∧(gD t w i x).list=t.list.set i x
 | .leaf _,w,i,x,h,hi=>by
  have h:w=1:=h
  obtain rfl:i=0:=by omega
  exact ⟨h,rfl⟩
 | .node y l r,w,0,x,h,hi=>⟨h,rfl⟩
 | .node y l r,w,p + 1,x,h,hi=>by
  obtain ⟨k,rfl,h1,h2⟩:=h
  have e:(2 * k + 1) / 2=k:=by omega
  rw [ua0,e]
  by_cases hp:p < k
  ·rw [if_pos hp]
   obtain ⟨a1,a2⟩:=way x h1 hp
   refine ⟨⟨k,rfl,a1,h2⟩,?_⟩
   simp only [Tr.list,List.set_cons_succ,a2]
   rw [List.set_append_left _ _ (by rw [Tr.len h1];exact hp)]
  ·rw [if_neg hp]
   obtain ⟨a1,a2⟩:=way (i:=p - k) x h2 (by omega)
   refine ⟨⟨k,rfl,h1,a1⟩,?_⟩
   simp only [Tr.list,List.set_cons_succ,a2]
   rw [List.set_append_right _ _ (by rw [Tr.len h1];omega),Tr.len h1]
section
variable {R:Type}
def ubC:Tr→Nat→Nat→Option Blk→(Tr→Option R)→Option R
 | t,w,i,x,k=>k (gD t w i x)
noncomputable def g9 (t:Tr):Nat→Nat→Option Blk→(Tr→Option R)→Option R :=
  Tr.rec (motive:=fun _=>Nat→Nat→Option Blk→(Tr→Option R)→Option R) (fun _ _ _ x k=>k (.leaf x))
   (fun y l r ihl ihr w i x k=>Nat.rec (k (.node x l r)) (fun p _=>gc (Nat.div w (nat_lit 2)) fun h=>Bool.rec (motive:=fun _=>Option R) (gc (Nat.sub p h) fun q=>ihr h q x fun r'=>k (.node y l r')) (ihl h p x fun l'=>k (.node y l' r)) (Nat.blt p h)) i) t
omit [Gl] in
theorem vay:∀ (t:Tr) (w i:Nat) (x:Option Blk) (k:Tr→Option R),g9 t w i x k=k (gD t w i x)
 | .leaf _,_,_,_,_=>rfl
 | .node y l r,w,0,x,k=>rfl
 | .node y l r,w,p + 1,x,k=>by
  show gc (w / 2) (fun h=>(Bool.rec (motive:=fun _=>Option R) (gc (p - h) fun q=>g9 r h q x fun r'=>k (.node y l r')) (g9 l h p x fun l'=>k (.node y l' r)) (Nat.blt p h):Option R))=_
  rw [qd,ua0,qF]
  split
  ·rename_i hp
   rw [Nat.blt_eq] at hp
   rw [if_pos hp,vay l]
  ·rename_i hp
   have hp:¬ p < w / 2:=by rw [← Nat.blt_eq,hp];exact Bool.false_ne_true
   rw [if_neg hp,qd,vay r]
end
abbrev RA:=List (Nat × Tr)
def vu:RA→List (Option Blk)
 | []=>[]
 | p :: l=>p.2.list ++ vu l
def xQ:RA→Prop
 | []=>True
 | p :: l=>p.2.has p.1∧xQ l
def xa7:RA→Nat→Option Blk
 | [],_=>none
 | p :: l,i=>match Nat.blt i p.1 with
  | true=>zak p.2 p.1 i
  | false=>xa7 l (i - p.1)
noncomputable def qam (l:RA):Nat→Option Blk :=
  List.rec (motive:=fun _=>Nat→Option Blk) (fun _=>none) (fun p _ ih i=>Prod.rec (motive:=fun _=>Option Blk) (fun w t=>Bool.rec (motive:=fun _=>Option Blk) (gc (Nat.sub i w) fun q=>ih q) (zaa t w i) (Nat.blt i w)) p) l
omit [Gl] in
theorem ya7:∀ {l:RA} {i:Nat},xQ l→qam l i=((vu l)[i]?).join
 | [],i,_=>by rw [show vu []=[] from rfl,List.getElem?_nil];rfl
 | p :: l,i,h=>by
  obtain ⟨h1,h2⟩:=h
  show (Bool.rec (motive:=fun _=>Option Blk) (gc (i - p.1) fun q=>qam l q) (zaa p.2 p.1 i) (Nat.blt i p.1):Option Blk)=_
  rw [qF]
  unfold vu
  split
  ·rename_i hi
   rw [Nat.blt_eq] at hi
   rw [uay h1 hi,List.getElem?_append_left (by rw [Tr.len h1];exact hi)]
  ·rename_i hi
   have hi:¬ i < p.1:=by rw [← Nat.blt_eq,hi];exact Bool.false_ne_true
   rw [qd,ya7 h2,List.getElem?_append_right (by rw [Tr.len h1];omega),Tr.len h1]
def gB:RA→Nat→Option Blk→RA
 | [],_,_=>[]
 | p :: l,i,x=>if i < p.1 then (p.1,gD p.2 p.1 i x) :: l else p :: gB l (i - p.1) x
omit [Gl] in
theorem za7:∀ {l:RA} {i:Nat} (x:Option Blk),xQ l→xQ (gB l i x)∧vu (gB l i x)=(vu l).set i x
 | [],i,x,_=>⟨trivial,by simp [gB,vu]⟩
 | p :: l,i,x,h=>by
  obtain ⟨h1,h2⟩:=h
  unfold gB
  by_cases hi:i < p.1
  ·rw [if_pos hi]
   obtain ⟨a1,a2⟩:=way x h1 hi
   refine ⟨⟨a1,h2⟩,?_⟩
   simp only [vu,a2]
   rw [List.set_append_left _ _ (by rw [Tr.len h1];exact hi)]
  ·rw [if_neg hi]
   obtain ⟨a1,a2⟩:=za7 (i:=i - p.1) x h2
   refine ⟨⟨h1,a1⟩,?_⟩
   simp only [vu,a2]
   rw [List.set_append_right _ _ (by rw [Tr.len h1];omega),Tr.len h1]
section
variable {R:Type}
def ybO:RA→Nat→Option Blk→(RA→Option R)→Option R
 | l,i,x,k=>k (gB l i x)
noncomputable def vab (l:RA):Nat→Option Blk→(RA→Option R)→Option R :=
  List.rec (motive:=fun _=>Nat→Option Blk→(RA→Option R)→Option R) (fun _ _ k=>k []) (fun p l ih i x k=>Prod.rec (motive:=fun _=>Option R) (fun w t=>Bool.rec (motive:=fun _=>Option R) (gc (Nat.sub i w) fun q=>ih q x fun l'=>k ((w,t) :: l')) (g9 t w i x fun t'=>k ((w,t') :: l)) (Nat.blt i w)) p) l
omit [Gl] in
theorem yQ:∀ (l:RA) (i:Nat) (x:Option Blk) (k:RA→Option R),vab l i x k=k (gB l i x)
 | [],_,_,_=>rfl
 | p :: l,i,x,k=>by
  show (Bool.rec (motive:=fun _=>Option R) (gc (i - p.1) fun q=>vab l q x fun l'=>k (p :: l')) (g9 p.2 p.1 i x fun t=>k ((p.1,t) :: l)) (Nat.blt i p.1):Option R)=_
  rw [qF]
  unfold gB
  split
  ·rename_i hi
   rw [Nat.blt_eq] at hi
   rw [if_pos hi,vay]
  ·rename_i hi
   have hi:¬ i < p.1:=by rw [← Nat.blt_eq,hi];exact Bool.false_ne_true
   rw [if_neg hi,qd,yQ l]
def uab (x:Option Blk) (l:RA) (k:RA→Option R):Option R :=
 match l with
 | []=>k [(1,.leaf x)]
 | p :: l1=>match l1 with
  | []=>k [(1,.leaf x),p]
  | q :: l2=>match Nat.beq p.1 q.1 with
   | true=>gc (2 * p.1 + 1) fun w=>k ((w,.node x p.2 q.2) :: l2)
   | false=>k ((1,.leaf x) :: p :: q :: l2)
omit [Gl] in
theorem xbO {x:Option Blk} {l:RA} (h:xQ l):∃ l',(∀ k:RA→Option R,uab x l k=k l')∧xQ l'∧vu l'=x :: vu l:=by
 unfold uab
 match l,h with
 | [],_=>exact ⟨[(1,.leaf x)],fun _=>rfl,⟨rfl,trivial⟩,rfl⟩
 | [p],h=>exact ⟨[(1,.leaf x),p],fun _=>rfl,⟨rfl,h⟩,rfl⟩
 | p :: q :: l2,⟨h1,h2,h3⟩ =>
  cases hb:Nat.beq p.1 q.1 with
  | true =>
   have e:=Nat.eq_of_beq_eq_true hb
   refine ⟨(2 * p.1 + 1,.node x p.2 q.2) :: l2,fun k=>by simp only [hb,qd],⟨⟨p.1,rfl,h1,e ▸ h2⟩,h3⟩,?_⟩
   simp [vu,Tr.list,List.append_assoc]
  | false=>exact ⟨(1,.leaf x) :: p :: q :: l2,fun k=>by simp only [hb],⟨rfl,h1,h2,h3⟩,rfl⟩
end
structure EH where
 n:Nat
 rb:RA
 loops:List (Option jc)
 deriving Inhabited
def EH.cells (e:EH):List (Option Blk):=vu e.rb
def EH.abs (e:EH):Heap:=⟨e.cells.reverse,e.loops⟩
def EH.ok (e:EH):Prop:=e.n=e.cells.length∧xQ e.rb
theorem EH.ok_nil:EH.ok ⟨0,[],[]⟩:=⟨rfl,trivial⟩
def EH.get (e:EH) (b:Nat):Option Blk:=match Nat.blt b e.n with | true=>gc (Nat.sub (Nat.sub e.n (nat_lit 1)) b) fun i=>qam e.rb i | false=>none
theorem EH.get_def (e:EH) (b:Nat):e.get b=match Nat.blt b e.n with | true=>gc (e.n - 1 - b) fun i=>qam e.rb i | false=>none:=rfl
theorem EH.get_abs {e:EH} (h:e.ok) (b:Nat):e.get b=e.abs.blk? b:=by
 rw [EH.get_def];unfold EH.abs Heap.blk?
 have h':e.n=e.cells.length:=h.1
 split
 ·rename_i hb
  rw [Nat.blt_eq] at hb
  rw [qd,ya7 h.2,List.getElem?_reverse (by omega),h']
  rfl
 ·rename_i hb
  have:¬ b < e.n:=by rw [← Nat.blt_eq,hb];simp
  rw [List.getElem?_eq_none (by simpa using by omega)]
  rfl
section ops
variable {R:Type} (T:Tab)
def EH.push (e:EH) (x:Blk) (K:EH→Option R):Option R:=gc (Nat.succ e.n) fun n=>uab (some x) e.rb fun rb=>K { n:=n,rb:=rb,loops:=e.loops }
def EH.put (e:EH) (b:Nat) (x:Blk) (K:EH→Option R):Option R :=
 match Nat.blt b e.n with
 | true=>gc (Nat.sub (Nat.sub e.n (nat_lit 1)) b) fun i=>vab e.rb i (some x) fun rb=>K { n:=e.n,rb:=rb,loops:=e.loops }
 | false=>none
omit [Gl] in
theorem EH.put_def (e:EH) (b:Nat) (x:Blk) (K:EH→Option R):e.put b x K=match Nat.blt b e.n with
 | true=>gc (e.n - 1 - b) fun i=>vab e.rb i (some x) fun rb=>K { n:=e.n,rb:=rb,loops:=e.loops }
 | false=>none:=rfl
omit [Gl] in
theorem EH.len {e:EH} (h:e.ok):e.abs.blks.length=e.n:=by
 have h':e.n=e.cells.length:=h.1
 simp [EH.abs,h']
theorem EH.push_ok {e:EH} (h:e.ok) {x:Blk} {K:EH→Option R} {y:R} (hk:e.push x K=some y):∃ e',e'.ok∧e'.abs=e.abs.push x∧K e'=some y:=by
 unfold EH.push at hk
 rw [qd] at hk
 obtain ⟨l',h1,h2,h3⟩:=xbO (R:=R) (x:=some x) h.2
 rw [h1] at hk
 have h':e.n=e.cells.length:=h.1
 refine ⟨_,⟨?_,h2⟩,?_,hk⟩
 ·show e.n + 1=(vu l').length
  rw [h3,List.length_cons,h'];rfl
 ·show (⟨(vu l').reverse,e.loops⟩:Heap)=_
  rw [h3]
  simp [EH.abs,Heap.push,EH.cells]
omit [Gl] in
theorem uaZ {e:EH} (h:e.ok) {b:Nat} (hb:b < e.n) (x:Option Blk) :
  EH.ok { n:=e.n,rb:=gB e.rb (e.n - 1 - b) x,loops:=e.loops }∧(EH.abs { n:=e.n,rb:=gB e.rb (e.n - 1 - b) x,loops:=e.loops }).blks=e.abs.blks.set b x:=by
 have h':e.n=e.cells.length:=h.1
 obtain ⟨a1,a2⟩:=za7 (i:=e.n - 1 - b) x h.2
 have a2':EH.cells { n:=e.n,rb:=gB e.rb (e.n - 1 - b) x,loops:=e.loops }=e.cells.set (e.n - 1 - b) x:=a2
 refine ⟨⟨by rw [a2',List.length_set];exact h',a1⟩,?_⟩
 show List.reverse (EH.cells _)=_
 rw [a2']
 show (e.cells.set (e.n - 1 - b) x).reverse=e.cells.reverse.set b x
 apply List.ext_getElem?
 intro i
 rw [List.getElem?_set]
 by_cases hi:i < e.cells.length
 ·rw [List.getElem?_reverse (by simpa using hi),List.getElem?_reverse hi,List.getElem?_set,List.length_set,List.length_reverse]
  by_cases hbi:b=i
  ·subst hbi
   simp [h',hi]
   omega
  ·rw [if_neg (by omega),if_neg hbi]
 ·rw [List.getElem?_eq_none (by simpa using hi),if_neg (by omega),List.getElem?_eq_none (by simpa using hi)]
theorem EH.put_ok {e:EH} (h:e.ok) {b:Nat} {x:Blk} {K:EH→Option R} {y:R} (hk:e.put b x K=some y):∃ e',e'.ok∧e'.abs=e.abs.put b x∧K e'=some y:=by
 rw [EH.put_def] at hk
 split at hk
 ·rename_i hb
  rw [Nat.blt_eq] at hb
  rw [qd,yQ] at hk
  obtain ⟨a1,a2⟩:=uaZ h hb (some x)
  refine ⟨_,a1,?_,hk⟩
  show (⟨_,_⟩:Heap)=⟨_,_⟩
  rw [Heap.mk.injEq]
  exact ⟨a2,rfl⟩
 ·cases hk
def EH.kill (e:EH) (b:Nat) (K:EH→Option R):Option R :=
 match Nat.blt b e.n with
 | true=>gc (e.n - 1 - b) fun i=>vab e.rb i none fun rb=>K { n:=e.n,rb:=rb,loops:=e.loops }
 | false=>none
theorem EH.kill_ok {e:EH} (h:e.ok) {b:Nat} {K:EH→Option R} {y:R} (hk:e.kill b K=some y):∃ e',e'.ok∧e'.abs=e.abs.kill b∧e'.n=e.n∧K e'=some y:=by
 unfold EH.kill at hk
 split at hk
 ·rename_i hb
  rw [Nat.blt_eq] at hb
  rw [qd,yQ] at hk
  obtain ⟨a1,a2⟩:=uaZ h hb none
  refine ⟨_,a1,?_,rfl,hk⟩
  show (⟨_,_⟩:Heap)=⟨_,_⟩
  rw [Heap.mk.injEq]
  exact ⟨a2,rfl⟩
 ·cases hk
def wl (K:AV→EH→Option R) (y:R) (S:(AV→Heap→Prop)→Prop):Prop :=
 ∃ r e',e'.ok∧K r e'=some y∧∀ Q:AV→Heap→Prop,Q r e'.abs→S Q
def jD (K:AV→Option R) (y:R) (S:(AV→Prop)→Prop):Prop :=
 ∃ r,K r=some y∧∀ Q:AV→Prop,Q r→S Q
def qaG (ti:TI) (row:List AV) (j:Nat) (K:AV→Option R):Option R:=match vH ti.desc with
 | false=>(match zw row j with | some r=>fAV r K | none=>none)
 | true=>(match Nat.beq j 0 && zD row ti.size with
  | true=>fAV (.agg row) K
  | false=>(match gk ti row j with | some r=>fAV r K | none=>none))
theorem xbQ (ti:TI) (row:List AV) (j:Nat) (K:AV→Option R):qaG ti row j K=(match gk ti row j with | some r=>fAV r K | none=>none):=by
 unfold qaG
 split
 ·rename_i h
  rw [qu]
  have e:gk ti row j=row[j]? := by simp [gk,h]
  rw [e]
 ·rename_i h
  split
  ·rename_i h2
   rw [yN] at h2
   simp only [Bool.and_eq_true,beq_iff_eq] at h2
   obtain ⟨h3,h4⟩:=h2
   have h3:=Nat.eq_of_beq_eq_true h3
   subst h3
   have e:gk ti row 0=some (.agg row):=by simp [gk,h,← h4]
   rw [e]
  ·rfl
def vac (t:TypeId) (row:List AV) (j:Nat) (K:AV→Option R):Option R :=
 match T t with
 | some ti=>qaG ti row j K
 | none=>none
def waq (e:EH) (t:TypeId) (x:AV) (K:AV→Option R):Option R :=
 match x with
 | .ptr b i j =>
  match e.get b with
  | some (.rows rs _ _)=>(match zw rs i with | some row=>vac T t row j K | none=>none)
  | _=>none
 | .vp row j=>vac T t row j K
 | .gp g j=>(match Gl.gl g with | some row=>vac T t row j K | none=>none)
 | _=>none
theorem gaG {t:TypeId} {row:List AV} {j:Nat} {K:AV→Option R} {y:R} (h:vac T t row j K=some y):∃ ti r,T t=some ti∧gk ti row j=some r∧K r=some y:=by
 unfold vac at h
 simp only [xbQ] at h
 split at h
 ·rename_i ti ht
  split at h
  ·rename_i r hr
   rw [xj] at h
   exact ⟨ti,r,ht,hr,h⟩
  ·cases h
 ·cases h
theorem gaK {e:EH} (he:e.ok) {t:TypeId} {x:AV} {K:AV→Option R} {y:R} (h:waq T e t x K=some y):∃ r,qC T e.abs t x=some r∧K r=some y:=by
 unfold waq at h
 split at h
 ·rename_i b i j
  rw [EH.get_abs he] at h
  split at h
  ·rename_i rs g fz hb
   rw [qu] at h
   split at h
   ·rename_i row hrow
    obtain ⟨ti,r,h1,h2,h3⟩:=gaG T h
    refine ⟨r,?_,h3⟩
    simp [qC,h1,hb,hrow,h2]
   ·cases h
  ·cases h
 ·obtain ⟨ti,r,h1,h2,h3⟩:=gaG T h
  exact ⟨r,by simp [qC,h1,h2],h3⟩
 ·rename_i g j
  split at h
  ·rename_i row hg
   obtain ⟨ti,r,h1,h2,h3⟩:=gaG T h
   exact ⟨r,by simp [qC,h1,hg,h2],h3⟩
  ·cases h
 ·cases h
def yaB (e:EH) (b i:Nat) (rs:List (List AV)) (row:List AV) (K:AV→EH→Option R):Option R :=
 wh row fun row=>zab rs i row fun rs=>e.put b (.rows rs false false) (K .junk)
def jaD (row:List AV) (j:Nat) (c:List AV) (n:Nat):List AV:=match Nat.beq j 0 && zD row n with
 | true=>c
 | false=>row.take j ++ c ++ row.drop (j + n)
omit [Gl] in
theorem jbM (row:List AV) (j:Nat) (c:List AV) (n:Nat):jaD row j c n=row.take j ++ c ++ row.drop (j + n):=by
 unfold jaD
 split
 ·rename_i h
  rw [yN] at h
  simp only [Bool.and_eq_true,beq_iff_eq] at h
  have h1:=Nat.eq_of_beq_eq_true h.1
  subst h1
  simp [← h.2]
 ·rfl
def vaa (e:EH) (t:TypeId) (x v:AV) (K:AV→EH→Option R):Option R :=
 match x with
 | .ptr b i j =>
  match e.get b with
  | some (.rows rs false false) =>
   match zw rs i with
   | some row =>
    match T t with
    | some ti=>(match (xd v).all okc && zD (xd v) ti.size && Nat.ble (j + ti.size) row.length with
     | true=>yaB e b i rs (jaD row j (xd v) ti.size) K
     | false=>none)
    | none=>none
   | none=>none
  | _=>none
 | _=>none
theorem zbF {e:EH} (he:e.ok) {t:TypeId} {x v:AV} {K:AV→EH→Option R} {y:R} (h:vaa T e t x v K=some y) :
  ∃ h' e',xV T e.abs t x v=some h'∧e'.ok∧e'.abs=h'∧K .junk e'=some y:=by
 unfold vaa at h
 simp only [jbM,yN] at h
 split at h
 ·rename_i b i j
  rw [EH.get_abs he] at h
  split at h
  ·rename_i rs hb
   rw [qu] at h
   split at h
   ·rename_i row hrow
    split at h
    ·rename_i ti ht
     split at h
     ·rename_i hc
      unfold yaB at h
      rw [qe,gaa] at h
      obtain ⟨e',h1,h2,h3⟩:=EH.put_ok he h
      refine ⟨_,e',?_,h1,h2,h3⟩
      simp only [xV,ht,hb,hrow,hc,if_true]
     ·cases h
    ·cases h
   ·cases h
  ·cases h
 ·cases h
def uaQ (e:EH) (s:TypeId) (x:AV) (f:Nat) (K:AV→Option R):Option R :=
 match T s with
 | some ti =>
  match ti.desc with
  | .struct fs =>
   match fs[f]? with
   | none=>none
   | some fd =>
    match T fd.type with
    | none=>none
    | some fi =>
     match fi.size == 0 with
     | true=>none
     | false =>
      match x with
      | .ptr b i j =>
       match e.get b with
       | some (.rows rs _ _)=>(match zw rs i with
        | some row=>(match Nat.blt (j + fd.offset) row.length with | true=>fAV (.ptr b i (j + fd.offset)) K | false=>none)
        | none=>none)
       | _=>none
      | .vp row j=>fAV (.vp row (j + fd.offset)) K
      | .gp g j=>fAV (.gp g (j + fd.offset)) K
      | _=>none
  | _=>none
 | none=>none
theorem qbp {e:EH} (he:e.ok) {s:TypeId} {x:AV} {f:Nat} {K:AV→Option R} {y:R} (h:uaQ T e s x f K=some y):∃ r,xD T e.abs s x f=some r∧K r=some y:=by
 unfold uaQ at h
 split at h
 ·rename_i ti ht
  split at h
  ·rename_i fs hd
   obtain ⟨d,sz,by',ze,cm⟩:=ti
   simp only at hd;subst hd
   split at h
   ·cases h
   ·rename_i fd hfd
    split at h
    ·cases h
    ·rename_i fi hfi
     split at h
     ·cases h
     ·rename_i hz
      split at h
      ·rename_i b i j
       rw [EH.get_abs he] at h
       split at h
       ·rename_i rs g fz hb
        rw [qu] at h
        split at h
        ·rename_i row hrow
         split at h
         ·rename_i hl
          rw [xj] at h
          exact ⟨_,by simp only [xD,ht,hfd,hfi,hz,hb,hrow,hl,if_true];rfl,h⟩
         ·cases h
        ·cases h
       ·cases h
      ·rw [xj] at h
       exact ⟨_,by simp only [xD,ht,hfd,hfi,hz];rfl,h⟩
      ·rw [xj] at h
       exact ⟨_,by simp only [xD,ht,hfd,hfi,hz];rfl,h⟩
      ·cases h
  ·cases h
 ·cases h
def wai (e:EH) (t:TypeId) (K:AV→EH→Option R):Option R :=
 match T t with
 | none=>none
 | some ei=>match Nat.blt 0 ei.size && ei.zero.all okc with
  | true=>wh ei.zero fun z=>e.push (.rows [z] false false) fun e'=>K (.ptr e.n 0 0) e'
  | false=>none
theorem uch {e:EH} (he:e.ok) {t:TypeId} {K:AV→EH→Option R} {y:R} (h:wai T e t K=some y):wl K y (xai T e.abs t):=by
 unfold wai at h
 split at h
 ·cases h
 ·rename_i ei ht
  split at h
  ·rename_i hc
   rw [qe] at h
   obtain ⟨e',h1,h2,h3⟩:=EH.push_ok he h
   simp only [Bool.and_eq_true,Nat.blt_eq] at hc
   refine ⟨_,e',h1,h3,fun Q hq => ?_⟩
   simp only [xai,ht,EH.len he]
   exact ⟨hc,h2 ▸ hq⟩
  ·cases h
def uah (e:EH) (t:TypeId) (x:AV) (K:AV→EH→Option R):Option R :=
 match T t with
 | none=>none
 | some ei=>match (xd x).length == ei.size && Nat.blt 0 ei.size && (xd x).all okc with
  | true=>wh (xd x) fun z=>e.push (.rows [z] false false) fun e'=>K (.ptr e.n 0 0) e'
  | false=>none
theorem uce {e:EH} (he:e.ok) {t:TypeId} {x:AV} {K:AV→EH→Option R} {y:R} (h:uah T e t x K=some y):wl K y (vah T e.abs t x):=by
 unfold uah at h
 split at h
 ·cases h
 ·rename_i ei ht
  split at h
  ·rename_i hc
   rw [qe] at h
   obtain ⟨e',h1,h2,h3⟩:=EH.push_ok he h
   simp only [Bool.and_eq_true,Nat.blt_eq,beq_iff_eq] at hc
   refine ⟨_,e',h1,h3,fun Q hq => ?_⟩
   simp only [vah,ht,EH.len he]
   exact ⟨⟨hc.1.1,hc.1.2,hc.2⟩,h2 ▸ hq⟩
  ·cases h
def vaf {α:Type}:List (List α)→(List (List α)→Option R)→Option R
 | [],k=>k []
 | a :: r,k=>wh a fun a'=>vaf r (fun r'=>k (a' :: r'))
theorem jS {α:Type}:∀ (l:List (List α)) (k:List (List α)→Option R),vaf l k=k l
 | [],_=>rfl
 | a :: r,k=>by rw [vaf,qe,jS r]
def yah (e:EH) (t:TypeId) (len:Nat) (parts:List (Nat × AV)) (K:AV→EH→Option R):Option R :=
 match T t with
 | none=>none
 | some ti =>
 match ti.desc with
 | .slice el =>
  match T el with
  | none=>none
  | some ei=>match Nat.ble (len * ei.size) 16777216 && Nat.blt 0 ei.size && ei.zero.all okc with
   | true=>(match zy ei.size (List.replicate len ei.zero) parts with
    | none=>none
    | some rows=>vaf rows fun rows=>e.push (.rows rows false false) fun e'=>K (.ms e.n 0 len (some len)) e')
   | false=>none
 | _=>none
theorem qcd {e:EH} (he:e.ok) {t:TypeId} {len:Nat} {parts:List (Nat × AV)} {K:AV→EH→Option R} {y:R} (h:yah T e t len parts K=some y):wl K y (wT T e.abs t len parts):=by
 unfold yah at h
 split at h
 ·cases h
 ·rename_i ti ht
  split at h
  ·rename_i el hd
   obtain ⟨d,sz,by',ze,cm⟩:=ti
   simp only at hd;subst hd
   split at h
   ·cases h
   ·rename_i ei hei
    split at h
    ·rename_i hc
     split at h
     ·cases h
     ·rename_i rows hrows
      rw [jS] at h
      obtain ⟨e',h1,h2,h3⟩:=EH.push_ok he h
      simp only [Bool.and_eq_true,Nat.blt_eq,Nat.ble_eq] at hc
      refine ⟨_,e',h1,h3,fun Q hq => ?_⟩
      simp only [wT,ht,hei,hrows,EH.len he]
      exact ⟨hc.1.1,hc.1.2,hc.2,.inl (h2 ▸ hq)⟩
    ·cases h
  ·cases h
def xaU (t:TypeId) (len:Nat) (parts:List (Nat × AV)) (K:AV→Option R):Option R :=
 match T t with
 | none=>none
 | some ti =>
 match ti.desc with
 | .slice el =>
  match T el with
  | none=>none
  | some ei=>match Nat.ble (len * ei.size) 16777216 && Nat.blt 0 ei.size && ei.zero.all okc with
   | true=>(match zy ei.size (List.replicate len ei.zero) parts with
    | none=>none
    | some rows=>vaf rows fun rows=>K (.vs rows (some len)))
   | false=>none
 | _=>none
theorem zce {h:Heap} {t:TypeId} {len:Nat} {parts:List (Nat × AV)} {K:AV→Option R} {y:R} (hh:xaU T t len parts K=some y) :
  ∃ r,K r=some y∧∀ Q:AV→Heap→Prop,Q r h→wT T h t len parts Q:=by
 unfold xaU at hh
 split at hh
 ·cases hh
 ·rename_i ti ht
  split at hh
  ·rename_i el hd
   obtain ⟨d,sz,by',ze,cm⟩:=ti
   simp only at hd;subst hd
   split at hh
   ·cases hh
   ·rename_i ei hei
    split at hh
    ·rename_i hc
     split at hh
     ·cases hh
     ·rename_i rows hrows
      rw [jS] at hh
      simp only [Bool.and_eq_true,Nat.blt_eq,Nat.ble_eq] at hc
      refine ⟨_,hh,fun Q hq => ?_⟩
      simp only [wT,ht,hei,hrows]
      exact ⟨hc.1.1,hc.1.2,hc.2,.inr hq⟩
    ·cases hh
  ·cases hh
def zae (e:EH) (t:TypeId) (l c:AV) (K:AV→EH→Option R):Option R :=
 match T t with
 | none=>none
 | some ti =>
 match ti.desc with
 | .slice el =>
  match l,c with
  | .int _ (.ofNat l),.int _ (.ofNat c) =>
   match T el with
   | none=>none
   | some ei=>match Nat.ble l c && Nat.ble (ei.bytes * c) 140737488355328 && Nat.ble c 140737488355328 && Nat.blt 0 ei.size && ei.zero.all okc with
    | true=>wh (List.replicate c ei.zero) fun rows=>e.push (.rows rows false false) fun e'=>gc l fun l=>gc c fun c=>K (.ms e.n 0 l (some c)) e'
    | false=>none
  | _,_=>none
 | _=>none
theorem xbY {e:EH} (he:e.ok) {t:TypeId} {l c:AV} {K:AV→EH→Option R} {y:R} (h:zae T e t l c K=some y):wl K y (qX T e.abs t l c):=by
 unfold zae at h
 split at h
 ·cases h
 ·rename_i ti ht
  split at h
  ·rename_i el hd
   obtain ⟨d,sz,by',ze,cm⟩:=ti
   simp only at hd;subst hd
   split at h
   ·rename_i k1 l k2 c
    split at h
    ·cases h
    ·rename_i ei hei
     split at h
     ·rename_i hc
      rw [qe] at h
      obtain ⟨e',h1,h2,h3⟩:=EH.push_ok he h
      rw [qd,qd] at h3
      simp only [Bool.and_eq_true,Nat.blt_eq,Nat.ble_eq] at hc
      obtain ⟨⟨⟨⟨c1,c2⟩,c3⟩,c4⟩,c5⟩:=hc
      refine ⟨_,e',h1,h3,fun Q hq => ?_⟩
      simp only [qX,ht,hei,EH.len he]
      refine ⟨⟨?_,?_,?_,?_⟩,c4,c5,?_⟩
      ·exact Int.natCast_nonneg l
      ·exact Int.ofNat_le.2 c1
      ·have:((ei.bytes * c:Nat):Int)≤140737488355328:=by omega
       simpa using this
      ·show (c:Int)≤_;omega
      ·simpa [h2] using hq
     ·cases h
   ·cases h
  ·cases h
end ops
end
end Go.Abs
