/-
  Steps to a law of this program: AbsEval6, AbsTables, AbsKnown.
  Conditions: none.
-/
import Derived.Test.YtpdnijifmebnbaaGreatDoorB11
import Derived.Test.YtpdnijifmebnbaaGreatDoorB3
set_option linter.unusedVariables false
set_option linter.unusedSimpArgs false
set_option linter.unusedSectionVars false
namespace Go.Abs
noncomputable section
variable [Gl]
section ops
variable [Bare] {R:Type} (ih:IH R) (T:Tab) {P:Program}
theorem wbm {ts:TS} (ht:okT ts) {ops:Array Oper} {o:Oper}:yas ops ts o=yg ops ts.flatten o:=by
 unfold yas yg
 cases hg:o.guard with
 | none=>rfl
 | some g =>
  obtain ⟨j,want⟩:=g
  simp only [qu,Array.getElem?_toList]
  cases hd:(ops[j]?).bind (·.dst) with
  | none=>rfl
  | some d=>simp only [qaj _ _ _ ht];rfl
abbrev jy (R:Type):=IH R→Tab→Array Oper→(gb→TS→EH→Option R)→TS→EH→Option R
def gbb:jy R:=fun _ _ _ K ts e=>K .normal ts e
def qbb (o:Oper) (rest:jy R):jy R:=fun ih T ops K ts e=>opE ih T ts e o fun r e=>zC ts o.dst r fun ts=>rest ih T ops K ts e
def gaH (o:Oper) (rest:jy R):jy R:=fun ih T ops K ts e=>match yas ops ts o with
 | none=>none
 | some false=>zC ts o.dst (.tup []) fun ts=>rest ih T ops K ts e
 | some true=>opE ih T ts e o fun r e=>zC ts o.dst r fun ts=>rest ih T ops K ts e
def jbR (o:Oper) (rest:jy R):jy R:=match o.guard with
 | none=>qbb o rest
 | some _=>gaH o rest
noncomputable def jac (o:Oper) (rest:jy R):jy R:=Option.rec (motive:=fun _=>jy R) (qbb o rest) (fun _=>gaH o rest) o.guard
def ubb:List Oper→jy R
 | []=>gbb
 | o :: rest=>jac o (ubb rest)
noncomputable def jbb (l:List Oper):jy R:=List.rec (motive:=fun _=>jy R) gbb (fun o _ ih=>jac o ih) l
def wao (ops:Array Oper) (l:List Oper) (ts:TS) (e:EH) (K:gb→TS→EH→Option R):Option R:=jbb l ih T ops K ts e
theorem zaI (hT:wc P T) (hX:jv P) (hih:ih.OK P) {ops:Array Oper}:∀ (l:List Oper) (k:Nat) (ts:TS) (e:EH) (K:gb→TS→EH→Option R) (y:R),ops.toList.drop k=l→e.ok→okT ts→wao ih T ops l ts e K=some y →
  wK K y fun Q=>∀ n m rnd,TodoSem P n m rnd [.inRegion ops (List.range' k l.length)] ⟨ts.flatten,e.abs⟩ Q
 | [],k,ts,e,K,y,_,he,ht,h=>⟨.normal,ts,e,he,ht,h,fun Q hq n m rnd=>wU hq⟩
 | o :: l,k,ts,e,K,y,hk,he,ht,h=>by
  have hlt:k < ops.toList.length:=by
   rcases Nat.lt_or_ge k ops.toList.length with h | h
   ·exact h
   ·rw [List.drop_eq_nil_of_le h] at hk;cases hk
  rw [List.drop_eq_getElem_cons hlt] at hk
  injection hk with h1 h2
  have ho:ops[k]? = some o:=by
   rw [← h1,Array.getElem_toList]
   exact Array.getElem?_eq_getElem (by simpa using hlt)
  rw [List.length_cons,List.range'_succ]
  have run:yg ops ts.flatten o=some true→(opE ih T ts e o fun r e=>zC ts o.dst r fun ts=>wao ih T ops l ts e K)=some y →
    wK K y fun Q=>∀ n m rnd,TodoSem P n m rnd [.inRegion ops (k :: List.range' (k + 1) l.length)] ⟨ts.flatten,e.abs⟩ Q:=fun hg hh=>by
   obtain ⟨r,e1,g1,g2,g3⟩:=ubc ih T hX hih ht he hh
   replace g2:zC ts o.dst r (fun ts=>wao ih T ops l ts e1 K)=some y:=g2
   obtain ⟨ts1,ht1,hfl,g2⟩:=jab ht g2
   obtain ⟨x,ts2,e2,k1,ht2,k2,k3⟩:=zaI hT hX hih l (k + 1) _ _ K y h2 g1 ht1 g2
   refine ⟨x,ts2,e2,k1,ht2,k2,fun Q hq n m rnd => ?_⟩
   have hop:=g3 (fun r h'=>TodoSem P n m rnd [.inRegion ops (List.range' (k + 1) l.length)] ⟨yi ts.flatten o.dst r,h'⟩ Q) (hfl ▸ k3 Q hq n m rnd)
   exact wak ho hg (uao hop) (vao hT hop)
  replace h:jac o (jbb l) ih T ops K ts e=some y:=h
  cases hgd:o.guard with
  | none =>
   simp only [jac,hgd] at h
   exact run (by simp [yg,hgd]) h
  | some q =>
   simp only [jac,hgd] at h
   unfold gaH at h
   rw [wbm ht] at h
   split at h
   ·cases h
   ·rename_i hg
    obtain ⟨ts1,ht1,hfl,h⟩:=jab ht h
    obtain ⟨x,ts2,e2,k1,ht2,k2,k3⟩:=zaI hT hX hih l (k + 1) _ _ K y h2 he ht1 h
    exact ⟨x,ts2,e2,k1,ht2,k2,fun Q hq n m rnd=>xak ho hg (hfl ▸ k3 Q hq n m rnd)⟩
   ·rename_i hg
    exact run hg h
def gaU (id:Nat) (K:gb→TS→EH→Option R) (x:gb) (ts:TS) (e:EH):Option R :=
 match x with
 | .jump (.exit id')=>(match Nat.beq id' id with | true=>K .normal ts e | false=>K (.jump (.exit id')) ts e)
 | x=>K x ts e
def ga6 (l:Nat) (ts:TS) (K:gb→TS→EH→Option R) (_:AV) (e:EH):Option R :=
 match e.loop l with
 | none=>none
 | some r=>match r.state with
  | .busy=>none
  | _=>(match r.pending with
   | none=>e.setLoop l none fun e=>K .normal ts e
   | some j=>(match qz j with
    | true=>e.setLoop l none fun e=>K (.jump j) ts e
    | false=>none))
def gaE (rnd:Option Nat) (f:AV) (ps:Array Tmp) (a body:Code) (ts:TS) (e:EH) (K:gb→TS→EH→Option R):Option R :=
 match (match rnd with | none=>true | some l=>(e.loop l).isSome) with
 | false=>none
 | true =>
 match f with
 | .fn (.func g) first cap=>gc e.loops.length fun l=>wh ts.flatten fun tl=>e.pushLoop { state:=.ready,pending:=none,tmps:=tl,params:=ps,assign:=a,body:=body } fun e=>wh (first ++ [.yld l] ++ cap) fun args=>ih.call g args e (ga6 l ts K)
 | _=>none
abbrev zL (R:Type):=IH R→Array Oper→TS→EH→(gb→TS→EH→Option R)→Option R
variable (gh:zL R)
abbrev yu (R:Type):=IH R→Tab→zL R→Option Nat→TS→EH→(gb→TS→EH→Option R)→Option R
def zaU:yu R:=fun _ _ _ _ ts e K=>K .normal ts e
def gbv (_:Nat):yu R:=zaU
def gav (_:Nat) (ops:Array Oper) (draw:Bool):yu R:=fun ih T gh _ ts e K=>match draw with
 | false=>wao ih T ops ops.toList ts e K
 | true=>gh ih ops ts e K
def qa4 (ih:IH R) (rnd:Option Nat) (b:Code) (K:gb→TS→EH→Option R) (x:gb) (ts:TS) (e:EH):Option R:=match x with
 | .normal=>ih.code rnd b ts e K
 | .jump j=>K (.jump j) ts e
def xbv (a b:Code):yu R:=fun ih _ _ rnd ts e K=>ih.code rnd a ts e (qa4 ih rnd b K)
def gaS (ih:IH R) (rnd:Option Nat) (a b:Code) (ts:TS) (e:EH) (K:gb→TS→EH→Option R) (c:AV):Option R:=match c with
 | .bool t=>(match t with | true=>ih.code rnd a ts e K | false=>ih.code rnd b ts e K)
 | _=>none
def xbw (c:Operand) (a b:Code):yu R:=fun ih _ _ rnd ts e K=>evK ts c (gaS ih rnd a b ts e K)
def wbw (id:Nat) (c:Code):yu R:=fun ih _ _ rnd ts e K=>ih.code rnd c ts e (gaU id K)
def qbv (c:Code):yu R:=fun ih _ _ rnd ts e K=>ih.loop rnd c ts e K
def ybw (id:Nat):yu R:=fun _ _ _ _ ts e K=>K (.jump (.exit id)) ts e
def zbw (l:Nat):yu R:=fun _ _ _ _ ts e K=>K (.jump (.goto l)) ts e
def vbv:yu R:=fun _ _ _ _ ts e K=>K (.jump .ret) ts e
def wbv (c:Code):yu R:=fun ih _ _ rnd ts e K=>ih.scope rnd c c ts e K
def ubv (f:Operand) (ps:Array Tmp) (a b:Code):yu R:=fun ih _ _ rnd ts e K=>evK ts f fun f=>gaE ih rnd f ps a b ts e K
def jbv:yu R:=fun _ _ _ _ _ _ _=>none
def ucb (c:Code):yu R :=
 match c with
 | .skip=>zaU
 | .label l=>gbv l
 | .region id ops draw=>gav id ops draw
 | .seq a b=>xbv a b
 | .cond c a b=>xbw c a b
 | .block id c=>wbw id c
 | .loop c=>qbv c
 | .exit id=>ybw id
 | .goto l=>zbw l
 | .ret=>vbv
 | .scope c=>wbv c
 | .rangeFunc f ps a b=>ubv f ps a b
 | .refuse _=>jbv
noncomputable def jcb (c:Code):yu R :=
  Code.rec (motive:=fun _=>yu R) zaU gav (fun a b _ _=>xbv a b) (fun c a b _ _=>xbw c a b) (fun id c _=>wbw id c) (fun c _=>qbv c) (fun f ps a b _ _=>ubv f ps a b)
   ybw (fun c _=>wbv c) gbv zbw vbv (fun _=>jbv) c
def yaT (rnd:Option Nat) (c:Code) (ts:TS) (e:EH) (K:gb→TS→EH→Option R):Option R:=jcb c ih T gh rnd ts e K
def vaK (rnd:Option Nat) (c:Code) (ts:TS) (e:EH) (K:gb→TS→EH→Option R):Option R :=
 ih.code rnd c ts e fun x ts e=>match x with
  | .normal=>ih.loop rnd c ts e K
  | .jump j=>K (.jump j) ts e
def vaC (rnd:Option Nat) (c x:Code) (ts:TS) (e:EH) (K:gb→TS→EH→Option R):Option R :=
 ih.code rnd x ts e fun x ts e=>match x with
  | .jump (.goto l)=>(match findLabel c l with
   | some rest=>ih.scope rnd c rest ts e K
   | none=>K (.jump (.goto l)) ts e)
  | x=>K x ts e
structure jT (P:Program):Prop where
 ok:∀ (ih:IH R),ih.OK P→∀ id ops ts e K y,e.ok→okT ts→gh ih ops ts e K=some y→wK K y fun Q=>∀ n m rnd,TodoSem P n m rnd [.code (.region id ops true)] ⟨ts.flatten,e.abs⟩ Q
theorem qcb (hT:wc P T) (hX:jv P) (hd:jT gh P) (hih:ih.OK P) (rnd:Option Nat) (c:Code) (ts:TS) (e:EH) (K:gb→TS→EH→Option R) (y:R) (he:e.ok) (ht:okT ts) (h:yaT ih T gh rnd c ts e K=some y) :
  wK K y fun Q=>∀ n m,TodoSem P n m rnd [.code c] ⟨ts.flatten,e.abs⟩ Q:=by
 unfold yaT at h
 cases c
 case skip=>exact ⟨.normal,ts,e,he,ht,h,fun Q hq n m=>uaA hq⟩
 case label=>exact ⟨.normal,ts,e,he,ht,h,fun Q hq n m=>qaA hq⟩
 case region id ops draw =>
  replace h:gav id ops draw ih T gh rnd ts e K=some y:=h
  unfold gav at h
  split at h
  ·obtain ⟨x,ts',e',h1,ht',h2,h3⟩:=zaI ih T hT hX hih ops.toList 0 ts e K y rfl he ht h
   refine ⟨x,ts',e',h1,ht',h2,fun Q hq n m=>ga1 ?_⟩
   have:=h3 Q hq n m rnd
   rw [Array.length_toList,← List.range_eq_range'] at this
   exact this
  ·obtain ⟨x,ts',e',h1,ht',h2,h3⟩:=hd.ok ih hih id ops ts e K y he ht h
   exact ⟨x,ts',e',h1,ht',h2,fun Q hq n m=>h3 Q hq n m rnd⟩
 case seq a b =>
  replace h:ih.code rnd a ts e (qa4 ih rnd b K)=some y:=h
  obtain ⟨x,ts1,e1,h1,ht1,h2,h3⟩:=hih.code _ _ _ _ _ _ he ht h
  cases x with
  | normal =>
   obtain ⟨x2,ts2,e2,k1,ht2,k2,k3⟩:=hih.code _ _ _ _ _ _ h1 ht1 h2
   exact ⟨x2,ts2,e2,k1,ht2,k2,fun Q hq n m=>qU (h3 (vG (fun s=>TodoSem P n m rnd [.code b] s Q) Q) (k3 Q hq n m) n m)⟩
  | jump j=>exact ⟨.jump j,ts1,e1,h1,ht1,h2,fun Q hq n m=>qU (h3 (vG (fun s=>TodoSem P n m rnd [.code b] s Q) Q) hq n m)⟩
 case cond c a b =>
  replace h:evK ts c (gaS ih rnd a b ts e K)=some y:=h
  rw [xc ht e.abs] at h
  unfold gaS at h
  split at h
  ·rename_i t hc
   split at h
   ·obtain ⟨x2,ts2,e2,k1,ht2,k2,k3⟩:=hih.code _ _ _ _ _ _ he ht h
    exact ⟨x2,ts2,e2,k1,ht2,k2,fun Q hq n m=>zal hc (k3 Q hq n m)⟩
   ·obtain ⟨x2,ts2,e2,k1,ht2,k2,k3⟩:=hih.code _ _ _ _ _ _ he ht h
    exact ⟨x2,ts2,e2,k1,ht2,k2,fun Q hq n m=>zal hc (k3 Q hq n m)⟩
  ·cases h
 case block id c =>
  replace h:ih.code rnd c ts e (gaU id K)=some y:=h
  obtain ⟨x,ts1,e1,h1,ht1,h2,h3⟩:=hih.code _ _ _ _ _ _ he ht h
  unfold gaU at h2
  split at h2
  ·rename_i id'
   split at h2
   ·rename_i hb
    rw [Nat.beq_eq] at hb
    exact ⟨_,ts1,e1,h1,ht1,h2,fun Q hq n m=>yal (h3 (gK id Q) (by simp only [gK,if_pos hb];exact hq) n m)⟩
   ·rename_i hb
    have hb:¬ id'=id:=fun e=>by rw [← Nat.beq_eq] at e;rw [e] at hb;cases hb
    exact ⟨_,ts1,e1,h1,ht1,h2,fun Q hq n m=>yal (h3 (gK id Q) (by simp only [gK,if_neg hb];exact hq) n m)⟩
  ·rename_i hne
   refine ⟨_,ts1,e1,h1,ht1,h2,fun Q hq n m=>yal (h3 (gK id Q) ?_ n m)⟩
   cases x with
   | normal=>exact hq
   | jump j=>cases j <;> first | exact hq | exact (hne _ rfl).elim
 case loop c =>
  replace h:ih.loop rnd c ts e K=some y:=h
  obtain ⟨x2,ts2,e2,k1,ht2,k2,k3⟩:=hih.loop _ _ _ _ _ _ he ht h
  exact ⟨x2,ts2,e2,k1,ht2,k2,fun Q hq n m=>za2 (k3 Q hq n m)⟩
 case exit id=>exact ⟨.jump (.exit id),ts,e,he,ht,h,fun Q hq n m=>gU _ trivial hq⟩
 case goto l=>exact ⟨.jump (.goto l),ts,e,he,ht,h,fun Q hq n m=>gU _ trivial hq⟩
 case ret=>exact ⟨.jump .ret,ts,e,he,ht,h,fun Q hq n m=>gU _ trivial hq⟩
 case scope c =>
  replace h:ih.scope rnd c c ts e K=some y:=h
  obtain ⟨x2,ts2,e2,k1,ht2,k2,k3⟩:=hih.scope _ _ _ _ _ _ _ he ht h
  exact ⟨x2,ts2,e2,k1,ht2,k2,fun Q hq n m=>ja1 (k3 Q hq n m)⟩
 case refuse=>exact absurd h (by intro h;cases h)
 case rangeFunc f ps a b =>
  replace h:evK ts f (fun f=>gaE ih rnd f ps a b ts e K)=some y:=h
  rw [xc ht e.abs] at h
  unfold gaE at h
  split at h
  ·cases h
  ·rename_i hrnd
   split at h
   ·rename_i g first cap hf
    rw [qd,qe] at h
    obtain ⟨e1,g1,g2,g3⟩:=EH.pushLoop_eq he h
    rw [qe] at g3
    obtain ⟨r,e2,k1,k2,k3⟩:=hih.call _ _ _ _ _ g1 g3
    unfold ga6 at k2
    rw [EH.loop_abs] at k2
    have hl:e.loops.length=e.abs.loops.length:=rfl
    have fin:∀ (Q:gb→St→Prop) n m,yM ts.flatten e.abs.loops.length Q r e2.abs→TodoSem P n m rnd [.code (.rangeFunc f ps a b)] ⟨ts.flatten,e.abs⟩ Q:=fun Q n m hq=>by
     refine jaA hf (fun l0 hl0 => ?_) ?_
     ·subst hl0
      simp only [EH.loop_abs] at hrnd
      exact hrnd
     ·have:=k3 (yM ts.flatten e.abs.loops.length Q) hq
      rw [g2] at this
      exact this
    split at k2
    ·cases k2
    ·rename_i r2 hr2
     rw [hl] at hr2 k2
     split at k2
     ·cases k2
     ·rename_i hst
      split at k2
      ·rename_i hp
       obtain ⟨e3,m1,m2,m3⟩:=EH.setLoop_eq k1 k2
       refine ⟨_,ts,e3,m1,ht,m3,fun Q hq n m=>fin Q n m ?_⟩
       simp only [yM,hr2,hp]
       exact ⟨hst,m2 ▸ hq⟩
      ·rename_i j hp
       split at k2
       ·rename_i hj
        obtain ⟨e3,m1,m2,m3⟩:=EH.setLoop_eq k1 k2
        refine ⟨_,ts,e3,m1,ht,m3,fun Q hq n m=>fin Q n m ?_⟩
        simp only [yM,hr2,hp]
        exact ⟨hst,hj,m2 ▸ hq⟩
       ·cases k2
   ·cases h
omit [Bare] in
theorem qbY (hih:ih.OK P) (rnd:Option Nat) (c:Code) (ts:TS) (e:EH) (K:gb→TS→EH→Option R) (y:R) (he:e.ok) (ht:okT ts) (h:vaK ih rnd c ts e K=some y) :
  wK K y fun Q=>∀ n m,TodoSem P n m rnd [.inLoop c] ⟨ts.flatten,e.abs⟩ Q:=by
 unfold vaK at h
 obtain ⟨x,ts1,e1,h1,ht1,h2,h3⟩:=hih.code _ _ _ _ _ _ he ht h
 cases x with
 | normal =>
  obtain ⟨x2,ts2,e2,k1,ht2,k2,k3⟩:=hih.loop _ _ _ _ _ _ h1 ht1 h2
  exact ⟨x2,ts2,e2,k1,ht2,k2,fun Q hq n m=>xE (h3 (vG (fun s=>TodoSem P n m rnd [.inLoop c] s Q) Q) (k3 Q hq n m) n m)⟩
 | jump j=>exact ⟨.jump j,ts1,e1,h1,ht1,h2,fun Q hq n m=>xE (h3 (vG (fun s=>TodoSem P n m rnd [.inLoop c] s Q) Q) hq n m)⟩
omit [Bare] in
theorem zbL (hih:ih.OK P) (rnd:Option Nat) (c x:Code) (ts:TS) (e:EH) (K:gb→TS→EH→Option R) (y:R) (he:e.ok) (ht:okT ts) (h:vaC ih rnd c x ts e K=some y) :
  wK K y fun Q=>∀ n m,TodoSem P n m rnd [.code x,.inScope c] ⟨ts.flatten,e.abs⟩ Q:=by
 unfold vaC at h
 obtain ⟨x1,ts1,e1,h1,ht1,h2,h3⟩:=hih.code _ _ _ _ _ _ he ht h
 dsimp only at h2
 split at h2
 ·rename_i l
  split at h2
  ·rename_i rest hf
   obtain ⟨x2,ts2,e2,k1,ht2,k2,k3⟩:=hih.scope _ _ _ _ _ _ _ h1 ht1 h2
   exact ⟨x2,ts2,e2,k1,ht2,k2,fun Q hq n m=>zV (h3 (uD P n m rnd c Q) (by simp only [uD,hf];exact k3 Q hq n m) n m)⟩
  ·rename_i hf
   exact ⟨_,ts1,e1,h1,ht1,h2,fun Q hq n m=>zV (h3 (uD P n m rnd c Q) (by simp only [uD,hf];exact hq) n m)⟩
 ·rename_i hne
  refine ⟨_,ts1,e1,h1,ht1,h2,fun Q hq n m=>zV (h3 (uD P n m rnd c Q) ?_ n m)⟩
  cases x1 with
  | normal=>exact hq
  | jump j=>cases j <;> first | exact hq | exact (hne _ rfl).elim
def gP (ts:TS) (e:EH):List ResultVar→(List AV→Option R)→Option R
 | [],K=>K []
 | .tmp t :: r,K=>q9 ts t fun x=>gP ts e r fun l=>K (x :: l)
 | .cell a t :: r,K=>q9 ts a fun x=>waq T e t x fun x=>gP ts e r fun l=>K (x :: l)
omit [Bare] in
theorem jam {ts:TS} (ht:okT ts) {e:EH} (he:e.ok):∀ (rs:List ResultVar) (K:List AV→Option R) (y:R),gP T ts e rs K=some y→∃ l,gv T ⟨ts.flatten,e.abs⟩ rs=some l∧K l=some y
 | [],K,y,h=>⟨[],rfl,h⟩
 | .tmp t :: r,K,y,h=>by
  rw [gP,qaj _ _ _ ht] at h
  obtain ⟨l,h1,h2⟩:=jam ht he r _ y h
  exact ⟨_,by simp only [gv,h1],h2⟩
 | .cell a t :: r,K,y,h=>by
  rw [gP,qaj _ _ _ ht] at h
  obtain ⟨x,h1,h2⟩:=gaK T he h
  obtain ⟨l,h3,h4⟩:=jam ht he r _ y h2
  exact ⟨_,by simp only [gv,h1,h3],h4⟩
def vaR (rs:List ResultVar) (K:AV→EH→Option R) (x:gb) (ts:TS) (e:EH):Option R :=
 match x with
 | .normal=>gP T ts e rs fun l=>fAV (wz l) fun r=>K r e
 | .jump .ret=>gP T ts e rs fun l=>fAV (wz l) fun r=>K r e
 | _=>none
theorem wb9 {fn:Func} {K:AV→EH→Option R} {x:gb} {ts:TS} {e:EH} {y:R} (he:e.ok) (ht:okT ts) (h:vaR T fn.results.toList K x ts e=some y) :
  wl K y fun Q=>w5 T fn Q x ⟨ts.flatten,e.abs⟩:=by
 unfold vaR at h
 split at h
 ·obtain ⟨l,h1,h2⟩:=jam T ht he _ _ _ h
  rw [xj] at h2
  exact ⟨_,e,he,h2,fun Q hq=>by simp only [w5,h1];exact hq⟩
 ·obtain ⟨l,h1,h2⟩:=jam T ht he _ _ _ h
  rw [xj] at h2
  exact ⟨_,e,he,h2,fun Q hq=>by simp only [w5,h1];exact hq⟩
 ·cases h
structure Fun where
 body:Code
 ntmps:Nat
 results:List ResultVar
structure gO (P:Program) (F:FuncId→Option Fun):Prop where
 ok:∀ f x,F f=some x→∃ fn,P.funcs[f]? = some fn∧fn.body=some x.body∧(fn.name == "runtime.NumGoroutine")=false∧fn.ntmps=x.ntmps∧fn.results.toList=x.results
variable (F:FuncId→Option Fun) (M:FuncId→Option (List AV→Option AV))
structure yr (P:Program) (M:FuncId→Option (List AV→Option AV)):Prop where
 ok:∀ f g args r,M f=some g→(∀ x∈args,Pure x)→g args=some r→KnownSem P f args r
def jah (f:FuncId) (args:List AV) (e:EH) (K:AV→EH→Option R):Option R :=
 match F f with
 | none=>none
 | some x=>xav x.ntmps args fun ts=>ih.code none x.body ts e (vaR T x.results K)
def ubh (args:List AV) (g:List AV→Option AV) (e:EH) (K:AV→EH→Option R) (no:Unit→Option R):Option R :=
 ww (frz 30 e) args fun as=>match g as with
  | some r=>(match uB r with
   | (x,true)=>fAV x fun x=>K x e
   | (x,false)=>fAV x fun x=>(match vQ 30 x with
    | true=>K x e
    | false=>(match jw (qq 30) args as with | true=>K x e | false=>no ())))
  | none=>no ()
def waN (sz bytes:Nat) (args:List AV) (e:EH) (K:AV→EH→Option R) (no:Unit→Option R):Option R :=
 match args with
 | [.ms b i0 n none,.int .i64 (.ofNat i),.ms b' j m _]=>(match Nat.beq m 1 with
  | true=>(match e.get b,e.get b' with
   | some (.rows rs _ false),some (.rows rs' _ false)=>(match rs'[j]? with
    | some row=>(match Nat.blt i n && Nat.ble (i0 + n) rs.length && !Nat.beq b b' && vF sz rs && vF sz [row] && Nat.ble ((n + 1) * bytes) 140737488355328 with
     | true=>wh (((rs.drop i0).take n).take i ++ row :: ((rs.drop i0).take n).drop i) fun rows=>gc (n + 1) fun m=>e.kill b fun e1=>e1.push (.rows rows true false) fun e2=>K (.ms e1.n 0 m none) e2
     | false=>no ())
    | none=>no ())
   | _,_=>no ())
  | false=>no ())
 | _=>no ()
def gaT (f:FuncId) (args:List AV) (e:EH) (K:AV→EH→Option R):Option R :=
 match M f with
 | some g=>ubh args g e K (fun _=>jah ih T F f args e K)
 | none=>(match Bare.ins f with
  | some p=>waN p.1 p.2 args e K (fun _=>jah ih T F f args e K)
  | none=>jah ih T F f args e K)
theorem xaw (hT:wc P T) (hF:gO P F) (hih:ih.OK P) (f:FuncId) (args:List AV) (e:EH) (K:AV→EH→Option R) (y:R) (he:e.ok) (h:jah ih T F f args e K=some y):wl K y (CallSem P f args e.abs):=by
 unfold jah at h
 split at h
 ·cases h
 ·rename_i x hx
  obtain ⟨fn,f1,f2,f3,f4,f5⟩:=hF.ok f x hx
  obtain ⟨ts0,ht0,hfl,h⟩:=jbt h
  obtain ⟨ex,ts,e1,h1,ht1,h2,h3⟩:=hih.code _ _ _ _ _ _ he ht0 h
  rw [hfl] at h3
  rw [← f5] at h2
  obtain ⟨r,e2,k1,k2,k3⟩:=wb9 T h1 ht1 h2
  refine ⟨r,e2,k1,k2,fun Q hq=>zbv f1 f2 f3 ?_⟩
  have:=h3 (w5 T fn Q) (k3 Q hq) e.abs.blks.length e.abs.loops.length
  rw [f4]
  refine this.mono fun e' s hq => ?_
  cases e' with
  | normal =>
   simp only [w5] at hq
   split at hq
   ·rename_i l hl
    exact ⟨trivial,_,uam hT hl,hq⟩
   ·exact hq.elim
  | jump j =>
   cases j <;> simp only [w5] at hq <;> first | (exact hq.elim) | skip
   split at hq
   ·rename_i l hl
    exact ⟨trivial,_,uam hT hl,hq⟩
   ·exact hq.elim
omit [Bare] in
theorem yb2 {f:FuncId} {sz bytes:Nat} (hI:xbz P f sz bytes) {args:List AV} {e:EH} {K:AV→EH→Option R} {no:Unit→Option R} {y:R} (he:e.ok) (h:waN sz bytes args e K no=some y)
  (hno:no ()=some y→wl K y (CallSem P f args e.abs)):wl K y (CallSem P f args e.abs):=by
 unfold waN at h
 split at h
 rotate_left
 ·exact hno h
 rename_i b i0 n i b' j m c'
 split at h
 rotate_left
 ·exact hno h
 rename_i hm
 obtain rfl:=Nat.eq_of_beq_eq_true hm
 rw [EH.get_abs he,EH.get_abs he] at h
 split at h
 rotate_left
 ·exact hno h
 rename_i rs g rs' g' hb hb'
 split at h
 rotate_left
 ·exact hno h
 rename_i row hrow
 split at h
 rotate_left
 ·exact hno h
 rename_i hc
 simp only [Bool.and_eq_true,Nat.blt_eq,Nat.ble_eq,Bool.not_eq_true',← Bool.not_eq_true,Nat.beq_eq] at hc
 obtain ⟨⟨⟨⟨⟨h1,h2⟩,h3⟩,h4⟩,h5⟩,h6⟩:=hc
 rw [qe,qd] at h
 obtain ⟨e1,k1,k2,k3,k4⟩:=EH.kill_ok he h
 obtain ⟨e2,m1,m2,m3⟩:=EH.push_ok k1 k4
 have hg:=vJ h5 row (by simp)
 refine ⟨_,e2,m1,m3,fun Q hq=>hI.run e.abs Q b i0 n rs g i b' j c' rs' g' row hb hb' h3 h1 h2 (vJ h4) hrow hg.1 hg.2 h6 ?_⟩
 rw [m2,k2,k3,← EH.len he] at hq
 exact hq
theorem vcd (hX:jv P) (hT:wc P T) (hF:gO P F) (hM:yr P M) (hih:ih.OK P) (f:FuncId) (args:List AV) (e:EH) (K:AV→EH→Option R) (y:R) (he:e.ok) (h:gaT ih T F M f args e K=some y):wl K y (CallSem P f args e.abs):=by
 unfold gaT at h
 split at h
 ·rename_i g hg
  unfold ubh at h
  obtain ⟨as,h1,h2⟩:=uF (vas he 30) args _ _ h
  split at h2
  ·rename_i r hr
   have hq:=hM.ok f g as r hg h1.pure hr
   split at h2
   ·rename_i x hu
    rw [xj] at h2
    exact ⟨x,e,he,h2,fun Q hk=>qbu h1.len h1.frz (hq.fresh hu) hk⟩
   rename_i x hu
   rw [xj] at h2
   have hp:=hq.pure hu
   split at h2
   ·rename_i hpl
    exact ⟨x,e,he,h2,fun Q hq=>qav h1.len h1.frz hp (xaG _ _ hpl) hq⟩
   ·split at h2
    ·rename_i hb
     have:=gA (yG 30) hb
     subst this
     exact ⟨x,e,he,h2,fun Q hq=>uaT h1.pure hp hq⟩
    ·exact xaw ih T F hT hF hih f args e K y he h2
  ·exact xaw ih T F hT hF hih f args e K y he h2
 ·split at h
  ·rename_i p hp
   exact yb2 (hX.ins f p.1 p.2 hp) he h fun h=>xaw ih T F hT hF hih f args e K y he h
  ·exact xaw ih T F hT hF hih f args e K y he h
def gG:Nat→IH R
 | 0=>{ code:=fun _ _ _ _ _=>none,loop:=fun _ _ _ _ _=>none,scope:=fun _ _ _ _ _ _=>none,call:=fun _ _ _ _=>none }
 | n + 1=>{ code:=yaT (gG n) T gh,loop:=vaK (gG n),scope:=vaC (gG n),call:=gaT (gG n) T F M }
theorem uV (hT:wc P T) (hX:jv P) (hF:gO P F) (hM:yr P M) (hd:jT gh P):∀ n,(gG (R:=R) T gh F M n).OK P
 | 0=>⟨fun _ _ _ _ _ _ _ _ h=>(by cases h),fun _ _ _ _ _ _ _ _ h=>(by cases h),fun _ _ _ _ _ _ _ _ _ h=>(by cases h),fun _ _ _ _ _ _ h=>(by cases h)⟩
 | n + 1=>⟨fun rnd c ts e K y he ht h=>qcb _ T gh hT hX hd (uV hT hX hF hM hd n) rnd c ts e K y he ht h,
   fun rnd c ts e K y he ht h=>qbY _ (uV hT hX hF hM hd n) rnd c ts e K y he ht h,
   fun rnd c x ts e K y he ht h=>zbL _ (uV hT hX hF hM hd n) rnd c x ts e K y he ht h,
   fun f args e K y he h=>vcd _ T F M hX hT hF hM (uV hT hX hF hM hd n) f args e K y he h⟩
end ops
section top
variable [Bare] (T:Tab) {P:Program} (gh:zL AV) (F:FuncId→Option Fun) (M:FuncId→Option (List AV→Option AV))
def vaD (n:Nat) (f:FuncId) (args:List AV):Option AV :=
 (gG T gh F M n).call f args ⟨0,[],[]⟩ fun r e=>frz 30 e r fun r=>some r
theorem qbL (hT:wc P T) (hX:jv P) (hF:gO P F) (hM:yr P M) (hd:jT gh P) {n:Nat} {f:FuncId} {args:List AV} {r:AV} (ha:vj (ju 30) args=true) (h:vaD T gh F M n f args=some r):zb P f args r:=by
 unfold vaD at h
 obtain ⟨r',e,h1,h2,h3⟩:=(uV T gh F M hT hX hF hM hd n).call f args ⟨0,[],[]⟩ _ _ EH.ok_nil h
 obtain ⟨y,k1,k2,k3⟩:=vas h1 30 _ _ _ h2
 injection k3 with k3;subst k3
 exact yc (fun x hx=>wan _ _ (xG ha x hx)) k2 (h3 _ k1)
def qaT (n:Nat) (f:FuncId) (args:List AV) (r:AV):Bool :=
 match vj (ju 30) args with
 | true=>(match vaD T gh F M n f args with | some r'=>qq 30 r' r | none=>false)
 | false=>false
theorem wcd (hT:wc P T) (hX:jv P) (hF:gO P F) (hM:yr P M) (hd:jT gh P) {n:Nat} {f:FuncId} {args:List AV} {r:AV} (h:qaT T gh F M n f args r=true):zb P f args r:=by
 unfold qaT at h
 split at h
 ·rename_i ha
  split at h
  ·rename_i r' hr
   rw [yG _ _ _ h] at hr
   exact qbL T gh F M hT hX hF hM hd ha hr
  ·cases h
 ·cases h
def vZ {R:Type}:Nat→EH→AV→(AV→Option R)→Option R
 | 0,_,_,_=>none
 | n + 1,e,x,k=>match x with
  | .agg cs=>ww (vZ n e) cs fun cs=>k (.agg cs)
  | .tup cs=>ww (vZ n e) cs fun cs=>k (.tup cs)
  | .ms b i len capo=>(match e.get b with
   | some (.rows rs _ _)=>(match Nat.ble (i + len) rs.length with
    | true=>uZ (vZ n e) ((rs.drop i).take len) fun es=>k (.vs es capo)
    | false=>none)
   | _=>none)
  | .bool b=>k (.bool b)
  | .int q n=>k (.int q n)
  | .str s=>k (.str s)
  | .nilp=>k .nilp
  | .nils=>k .nils
  | .nilf=>k .nilf
  | .nili=>k .nili
  | .nilm=>k .nilm
  | _=>none
structure zaY (h:Heap) (xs ys:List AV):Prop where
 len:xs.length=ys.length
 frz:∀ (i:Nat) (hi:i < xs.length) (hj:i < ys.length),FrzN h xs[i] ys[i]
 pure:∀ y∈ys,Pure y
omit [Gl] [Bare] in
theorem uas {R:Type} {h:Heap} {f:AV→(AV→Option R)→Option R} (hf:∀ x k z,f x k=some z→∃ y,FrzN h x y∧Pure y∧k y=some z) :
  ∀ (l:List AV) (k:List AV→Option R) (z:R),ww f l k=some z→∃ l',zaY h l l'∧k l'=some z
 | [],k,z,hk=>⟨[],⟨rfl,fun i hi=>by simp at hi,fun y hy=>by cases hy⟩,hk⟩
 | a :: l,k,z,hk=>by
  obtain ⟨y,h1,h2,h3⟩:=hf _ _ _ hk
  obtain ⟨l',h4,h5⟩:=uas hf l _ z h3
  refine ⟨y :: l',⟨by simp [h4.len],fun i hi hj => ?_,fun x hx => ?_⟩,h5⟩
  ·cases i with
   | zero=>exact h1
   | succ i=>exact h4.frz i (by simpa using hi) (by simpa using hj)
  ·rcases List.mem_cons.1 hx with rfl | hx
   ·exact h2
   ·exact h4.pure x hx
omit [Gl] [Bare] in
theorem jbn {R:Type} {h:Heap} {f:AV→(AV→Option R)→Option R} (hf:∀ x k z,f x k=some z→∃ y,FrzN h x y∧Pure y∧k y=some z) :
  ∀ (l:List (List AV)) (k:List (List AV)→Option R) (z:R),uZ f l k=some z →
   ∃ l':List (List AV),l.length=l'.length∧(∀ (i:Nat) (hi:i < l.length) (hj:i < l'.length),zaY h l[i] l'[i])∧k l'=some z
 | [],k,z,hk=>⟨[],rfl,fun i hi=>by simp at hi,hk⟩
 | a :: l,k,z,hk=>by
  obtain ⟨y,h1,h3⟩:=uas hf a _ _ hk
  obtain ⟨l',h4,h5,h6⟩:=jbn hf l _ z h3
  refine ⟨y :: l',by simp [h4],fun i hi hj => ?_,h6⟩
  cases i with
  | zero=>exact h1
  | succ i=>exact h5 i (by simpa using hi) (by simpa using hj)
omit [Bare] in
theorem ubn {R:Type} {e:EH} (he:e.ok):∀ (n:Nat) (x:AV) (k:AV→Option R) (z:R),vZ n e x k=some z→∃ y,FrzN e.abs x y∧Pure y∧k y=some z
 | 0,_,_,_,h=>by cases h
 | n + 1,x,k,z,h=>by
  have ih:=ubn he n (R:=R)
  have self:∀ {x:AV},Plain x→Pure x→k x=some z→∃ y,FrzN e.abs x y∧Pure y∧k y=some z:=fun hp hq hk=>⟨_,.plain _ hp,hq,hk⟩
  unfold vZ at h
  split at h
  ·obtain ⟨l,h1,h2⟩:=uas ih _ _ _ h
   exact ⟨_,.agg _ _ h1.len h1.frz,.agg _ fun i hi=>h1.pure _ (List.getElem_mem hi),h2⟩
  ·obtain ⟨l,h1,h2⟩:=uas ih _ _ _ h
   exact ⟨_,.tup _ _ h1.len h1.frz,.tup _ fun i hi=>h1.pure _ (List.getElem_mem hi),h2⟩
  ·rename_i b i len capo
   rw [EH.get_abs he] at h
   split at h
   ·rename_i rs g fz hb
    split at h
    ·rename_i hc
     rw [Nat.ble_eq] at hc
     obtain ⟨es,h1,h2,h3⟩:=jbn ih _ _ _ h
     have hlen:((rs.drop i).take len).length=len:=by rw [List.length_take,List.length_drop];omega
     have hl:es.length=len:=by rw [← h1,hlen]
     have get:∀ (t:Nat) (ht:t < es.length) (hr:i + t < rs.length),zaY e.abs rs[i + t] es[t]:=fun t ht hr=>by
      have:=h2 t (by omega) ht
      simpa using this
     refine ⟨_,.ms b i len capo rs g fz es hb hl hc (fun t ht hr=>(get t ht hr).len.symm) (fun t ht hr j h1 h2=>(get t ht hr).frz j h2 h1),.vs _ _ fun t ht j hj=>(get t ht (by omega)).pure _ (List.getElem_mem hj),h3⟩
    ·cases h
   ·cases h
  ·exact self (.bool _) (.bool _) h
  ·exact self (.int _ _) (.int _ _) h
  ·exact self (.str _) (.str _) h
  ·exact self .nilp .nilp h
  ·exact self .nils .nils h
  ·exact self .nilf .nilf h
  ·exact self .nili .nili h
  ·exact self .nilm .nilm h
  ·cases h
def waD (n:Nat) (f:FuncId) (args:List AV):Option AV :=
 (gG T gh F M n).call f args ⟨0,[],[]⟩ fun r e=>vZ 30 e r fun r=>some r
theorem gbL (hT:wc P T) (hX:jv P) (hF:gO P F) (hM:yr P M) (hd:jT gh P) {n:Nat} {f:FuncId} {args:List AV} {r:AV} (ha:vj (ju 30) args=true) (h:waD T gh F M n f args=some r):FreshSem P f args r:=by
 unfold waD at h
 obtain ⟨r',e,h1,h2,h3⟩:=(uV T gh F M hT hX hF hM hd n).call f args ⟨0,[],[]⟩ _ _ EH.ok_nil h
 obtain ⟨y,k1,k2,k3⟩:=ubn h1 30 _ _ _ h2
 injection k3 with k3;subst k3
 exact jb6 (fun x hx=>wan _ _ (xG ha x hx)) k2 (h3 _ k1)
def qaD (n:Nat) (f:FuncId) (args:List AV) (r:AV):Bool :=
 match uB r with
 | (x,true)=>(match vj (ju 30) args with
  | true=>(match waD T gh F M n f args with | some r'=>qq 30 r' x | none=>false)
  | false=>false)
 | (x,false)=>(match jbk x with | true=>false | false=>qaT T gh F M n f args x)
theorem qbM (hT:wc P T) (hX:jv P) (hF:gO P F) (hM:yr P M) (hd:jT gh P) {n:Nat} {f:FuncId} {args:List AV} {r:AV} (h:qaD T gh F M n f args r=true):KnownSem P f args r:=by
 have mk:∀ x,uB r=(x,true)→r=.ifc 999999 x:=fun x hu=>by
  unfold uB at hu
  split at hu
  ·split at hu
   ·rename_i ht
    injection hu with hu _;subst hu
    rw [Nat.eq_of_beq_eq_true ht]
   ·injection hu with _ hu;cases hu
  ·injection hu with _ hu;cases hu
 have um:∀ x,uB r=(x,false)→r=x:=fun x hu=>by
  unfold uB at hu
  split at hu
  ·split at hu
   ·injection hu with _ hu;cases hu
   ·injection hu
  ·injection hu
 unfold qaD at h
 split at h
 ·rename_i x hu
  split at h
  ·rename_i ha
   split at h
   ·rename_i r' hr
    rw [yG _ _ _ h] at hr
    rw [mk x hu]
    unfold KnownSem
    simp only [if_true]
    exact gbL T gh F M hT hX hF hM hd ha hr
   ·cases h
  ·cases h
 ·rename_i x hu
  split at h
  ·cases h
  ·rename_i hi
   rw [um x hu]
   refine .of_pure (wcd T gh F M hT hX hF hM hd h) fun y e => ?_
   rw [e] at hi
   cases hi
end top
end
end Go.Abs

namespace Go.Abs
noncomputable section
def yaN:Value→Bool
 | .agg _=>true
 | _=>false
def vae (P:Program) (t:TypeId):Option TypeInfo:=zw P.types.toList t
theorem vaN {P:Program} {t:TypeId} {i:TypeInfo} (h:vae P t=some i):P.info? t=some i:=by
 unfold vae at h
 rw [qu,Array.getElem?_toList] at h
 obtain ⟨ht,_⟩:=Array.getElem?_eq_some_iff.1 h
 unfold Tables.info?
 rw [if_pos ht]
 exact h
def xay (P:Program) (t:TypeId):Option TypeDesc :=
 match vae P t with
 | none=>none
 | some i=>match i.desc with
  | .named _ u=>(match vae P u with | some j=>some j.desc | none=>none)
  | d=>some d
theorem jbB {P:Program} {t:TypeId} {d:TypeDesc} (h:xay P t=some d):P.underlying t=some d:=by
 unfold xay at h
 split at h
 ·cases h
 ·rename_i i hi
  have h1:=vaN hi
  unfold Program.underlying
  rw [h1]
  obtain ⟨dd⟩:=i
  split at h
  ·rename_i u hu
   split at h
   ·rename_i j hj
    have h2:=vaN hj
    simp only at hu;subst hu
    simp only [h2]
    exact h
   ·cases h
  ·rename_i hne
   simp only at hne
   cases dd <;> first | exact h | exact (hne _ _ rfl).elim
def jG (P:Program) (t:TypeId):Option TI :=
 match xay P t with
 | none=>none
 | some d=>match vae P t with
  | none=>none
  | some info=>match info.zero with
   | none=>none
   | some z=>match z.cells.size == info.size && z.cells.toList.all one && (yaN z == vH d) with
    | true=>some { desc:=d,size:=info.size,bytes:=info.bytes,zero:=z.cells.toList.map ofV,cmp := !(P.stoodInHeld t) && !(P.eqGuardType P.depth t) }
    | false=>none
theorem jak (P:Program):wc P (jG P) where
 ok t i h:=by
  unfold jG at h
  split at h
  ·cases h
  ·rename_i d hd
   split at h
   ·cases h
   ·rename_i info hinfo
    split at h
    ·cases h
    ·rename_i z hz
     split at h
     ·rename_i hc
      injection h with h;subst h
      simp only [Bool.and_eq_true,beq_iff_eq,List.all_eq_true] at hc
      obtain ⟨⟨h1,h2⟩,h3⟩:=hc
      refine ⟨jbB hd,info,vaN hinfo,rfl,rfl,z,hz,rfl,h1,h2,fun ha => ?_,fun ha => ?_⟩
      ·simp only at ha
       rw [ha] at h3
       cases z <;> simp [yaN] at h3
       rfl
      ·simp only at ha
       rw [ha] at h3
       cases z <;> simp [yaN] at h3 <;> rfl
     ·cases h
 cmp t i h hc:=by
  unfold jG at h
  split at h
  ·cases h
  ·split at h
   ·cases h
   ·split at h
    ·cases h
    ·split at h
     ·injection h with h;subst h
      simpa using hc
     ·cases h
def uaO (P:Program) (f:FuncId):Option Fun :=
 match zw P.funcs.toList f with
 | none=>none
 | some fn=>match fn.body with
  | none=>none
  | some c=>match fn.name == "runtime.NumGoroutine" with
   | true=>none
   | false=>some { body:=c,ntmps:=fn.ntmps,results:=fn.results.toList }
theorem yb6 (P:Program):gO P (uaO P) where
 ok f x h:=by
  unfold uaO at h
  rw [qu,Array.getElem?_toList] at h
  split at h
  ·cases h
  ·rename_i fn hf
   split at h
   ·cases h
   ·rename_i c hc
    split at h
    ·cases h
    ·rename_i hn
     injection h with h;subst h
     exact ⟨fn,hf,hc,hn,rfl,rfl⟩
end
end Go.Abs

namespace Go.Abs
noncomputable section
variable [Gl]
def qak:List (FuncId × List (List AV × AV))→FuncId→Option (List AV→Option AV)
 | [],_=>none
 | x :: l,f=>match Nat.beq x.1 f with
  | true=>some fun args=>vbp args x.2
  | false=>qak l f
def xB (P:Program) (l:List (FuncId × List (List AV × AV))):Prop:=∀ x∈l,∀ y∈x.2,KnownSem P x.1 y.1 y.2
theorem ua1 {P:Program}:∀ {l:List (FuncId × List (List AV × AV))},xB P l→yr P (qak l)
 | [],_=>⟨fun _ _ _ _ h=>by cases h⟩
 | x :: l,h=>⟨fun f g args r hf hp hr=>by
  unfold qak at hf
  split at hf
  ·rename_i e
   obtain rfl:=Nat.eq_of_beq_eq_true e
   injection hf with hf;subst hf
   exact h x List.mem_cons_self _ (zb8 hr)
  ·exact (ua1 fun y hy=>h y (List.mem_cons_of_mem _ hy)).ok f g args r hf hp hr⟩
def wj {α:Type} (p:α→Bool):List α→Bool
 | []=>true
 | a :: l=>match p a with | true=>wj p l | false=>false
omit [Gl] in
theorem qaW {α:Type} {p:α→Bool}:∀ {l:List α},wj p l=true→∀ x∈l,p x=true
 | [],_,_,h=>by cases h
 | a :: l,h,x,hx=>by
  unfold wj at h
  split at h
  ·rename_i ha
   rcases List.mem_cons.1 hx with rfl | hx
   ·exact ha
   ·exact qaW h x hx
  ·cases h
end
end Go.Abs
