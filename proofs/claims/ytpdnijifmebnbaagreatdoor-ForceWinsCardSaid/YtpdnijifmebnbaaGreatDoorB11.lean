/-
  Steps to a law of this program: AbsEval5.
  Conditions: none.
-/
import Derived.Test.YtpdnijifmebnbaaGreatDoorB7
import Derived.Test.YtpdnijifmebnbaaGreatDoorB10
import Derived.Test.YtpdnijifmebnbaaGreatDoorB4
set_option linter.unusedVariables false
set_option linter.unusedSimpArgs false
set_option linter.unusedSectionVars false
namespace Go.Abs
noncomputable section
variable [Gl]
section ops
variable {R:Type}
structure IH (R:Type) where
 code:Option Nat→Code→TS→EH→(gb→TS→EH→Option R)→Option R
 loop:Option Nat→Code→TS→EH→(gb→TS→EH→Option R)→Option R
 scope:Option Nat→Code→Code→TS→EH→(gb→TS→EH→Option R)→Option R
 call:FuncId→List AV→EH→(AV→EH→Option R)→Option R
def wK (K:gb→TS→EH→Option R) (y:R) (S:(gb→St→Prop)→Prop):Prop :=
 ∃ x ts e,e.ok∧okT ts∧K x ts e=some y∧∀ Q:gb→St→Prop,Q x ⟨ts.flatten,e.abs⟩→S Q
structure IH.OK (P:Program) (ih:IH R):Prop where
 code:∀ rnd c ts e K y,e.ok→okT ts→ih.code rnd c ts e K=some y→wK K y fun Q=>∀ n m,TodoSem P n m rnd [.code c] ⟨ts.flatten,e.abs⟩ Q
 loop:∀ rnd c ts e K y,e.ok→okT ts→ih.loop rnd c ts e K=some y→wK K y fun Q=>∀ n m,TodoSem P n m rnd [.inLoop c] ⟨ts.flatten,e.abs⟩ Q
 scope:∀ rnd c x ts e K y,e.ok→okT ts→ih.scope rnd c x ts e K=some y→wK K y fun Q=>∀ n m,TodoSem P n m rnd [.code x,.inScope c] ⟨ts.flatten,e.abs⟩ Q
 call:∀ f args e K y,e.ok→ih.call f args e K=some y→wl K y (CallSem P f args e.abs)
def uX:List (Option jc)→Nat→Option jc
 | [],_=>none
 | x :: l,n=>match n with | 0=>x | p + 1=>uX l p
omit [Gl] in
theorem ybd:∀ (l:List (Option jc)) (n:Nat),uX l n=(l[n]?).join
 | [],_=>by simp [uX]
 | x :: l,0=>by simp [uX]
 | x :: l,n + 1=>by simp only [uX,ybd l n,List.getElem?_cons_succ]
def EH.loop (e:EH) (l:Nat):Option jc:=uX e.loops l
theorem EH.loop_abs (e:EH) (l:Nat):e.loop l=e.abs.loop? l:=ybd _ _
def EH.setLoop (e:EH) (l:Nat) (r:Option jc) (K:EH→Option R):Option R:=zab e.loops l r fun ls=>K { n:=e.n,rb:=e.rb,loops:=ls }
theorem EH.setLoop_eq {e:EH} (he:e.ok) {l:Nat} {r:Option jc} {K:EH→Option R} {y:R} (h:e.setLoop l r K=some y):∃ e',e'.ok∧e'.abs=e.abs.setLoop l r∧K e'=some y:=by
 unfold EH.setLoop at h
 rw [gaa] at h
 exact ⟨{ n:=e.n,rb:=e.rb,loops:=e.loops.set l r },he,rfl,h⟩
def EH.pushLoop (e:EH) (r:jc) (K:EH→Option R):Option R:=wh (e.loops ++ [some r]) fun ls=>K { n:=e.n,rb:=e.rb,loops:=ls }
theorem EH.pushLoop_eq {e:EH} (he:e.ok) {r:jc} {K:EH→Option R} {y:R} (h:e.pushLoop r K=some y):∃ e',e'.ok∧e'.abs=e.abs.pushLoop r∧K e'=some y:=by
 unfold EH.pushLoop at h
 rw [qe] at h
 exact ⟨{ n:=e.n,rb:=e.rb,loops:=e.loops ++ [some r] },he,rfl,h⟩
class Bare where
 ext:FuncId→Option (List AV→Option AV)
 ins:FuncId→Option (Nat × Nat):=fun _=>none
structure jv [Bare] (P:Program):Prop where
 ok:∀ f g args r,Bare.ext f=some g→g args=some r→waY P f args r
 ins:∀ f sz bytes,Bare.ins f=some (sz,bytes)→xbz P f sz bytes:=by intro f sz bytes h;cases h
variable [Bare] (ih:IH R) (T:Tab)
def wam (l:Nat) (x:gb) (e:EH) (K:AV→EH→Option R):Option R :=
 match e.loop l with
 | none=>none
 | some r=>match x with
  | .normal=>e.setLoop l (some { r with state:=.ready,pending:=none }) fun e=>K (.bool true) e
  | .jump j=>(match qz j with
   | true=>e.setLoop l (some { r with state:=.done,pending:=some j }) fun e=>K (.bool false) e
   | false=>none)
def jbw (l:Nat) (body:Code) (ts:TS) (e:EH) (K:AV→EH→Option R):Option R :=
 match e.loop l with
 | none=>none
 | some r=>match r.state with
  | .ready=>e.setLoop l (some { r with state:=.busy,pending:=r.pending }) fun e=>ih.code (some l) body ts e fun x _ e=>wam l x e K
  | _=>none
def vaj (l:Nat) (args:List AV) (e:EH) (K:AV→EH→Option R):Option R :=
 match e.loop l with
 | none=>none
 | some r=>match Nat.beq args.length r.params.size with
  | true=>waT (yo r.tmps r.params.toList args) fun ts=>ih.code (some l) r.assign ts e fun x ts e=>match x with
   | .normal=>jbw ih l r.body ts e K
   | .jump j=>wam l (.jump j) e K
  | false=>none
def gag (f:AV) (args:List AV) (e:EH) (K:AV→EH→Option R):Option R :=
 match f with
 | .fn (.func g) first cap=>wh (first ++ args ++ cap) fun as=>match Bare.ext g with
  | none=>ih.call g as e K
  | some x=>(match x as with | some r=>fAV r fun r=>K r e | none=>none)
 | .yld l=>vaj ih l args e K
 | _=>none
omit [Bare] in
theorem ya6 {l:Nat} {x:gb} {ts:List AV} {e:EH} {K:AV→EH→Option R} {y:R} (he:e.ok) (h:wam l x e K=some y) :
  wl K y fun Q=>qB l Q x ⟨ts,e.abs⟩:=by
 unfold wam at h
 rw [EH.loop_abs] at h
 split at h
 ·cases h
 ·rename_i r hr
  split at h
  ·obtain ⟨e',h1,h2,h3⟩:=EH.setLoop_eq he h
   exact ⟨_,e',h1,h3,fun Q hq=>by simp only [qB,hr];exact h2 ▸ hq⟩
  ·split at h
   ·rename_i hj
    obtain ⟨e',h1,h2,h3⟩:=EH.setLoop_eq he h
    exact ⟨_,e',h1,h3,fun Q hq=>by simp only [qB,hr];exact ⟨hj,h2 ▸ hq⟩⟩
   ·cases h
variable {P:Program}
theorem ybA (hih:ih.OK P) {l:Nat} {args:List AV} {e:EH} {K:AV→EH→Option R} {y:R} (he:e.ok) (h:vaj ih l args e K=some y) :
  wl K y (uo P e.abs (.yld l) args):=by
 unfold vaj at h
 rw [EH.loop_abs] at h
 split at h
 ·cases h
 ·rename_i r hr
  split at h
  ·rename_i hn
   rw [Nat.beq_eq] at hn
   obtain ⟨ts0,ht0,hfl,h⟩:=xcc h
   obtain ⟨x,ts,e1,h1,ht1,h2,h3⟩:=hih.code _ _ _ _ _ _ he ht0 h
   rw [hfl] at h3
   have fin:∀ Q:AV→Heap→Prop,(∀ n m,TodoSem P n m (some l) [.code r.assign,.beginRound,.code r.body] ⟨yo r.tmps r.params.toList args,e.abs⟩ (qB l Q))→uo P e.abs (.yld l) args Q:=fun Q hq=>by
    simp only [uo,hr]
    exact ⟨trivial,jax hr hn (hq _ _)⟩
   have app:∀ (Q:gb→St→Prop) n m,TodoSem P n m (some l) [.code r.assign] ⟨yo r.tmps r.params.toList args,e.abs⟩ (vG (fun s=>TodoSem P n m (some l) [.beginRound,.code r.body] s Q) Q) →
     TodoSem P n m (some l) [.code r.assign,.beginRound,.code r.body] ⟨yo r.tmps r.params.toList args,e.abs⟩ Q:=fun Q n m hq=>uL (xs:=[.code r.assign]) rfl hq
   cases x with
   | normal =>
    simp only at h2
    unfold jbw at h2
    rw [EH.loop_abs] at h2
    split at h2
    ·cases h2
    ·rename_i r1 hr1
     split at h2
     ·rename_i hst
      obtain ⟨e2,g1,g2,g3⟩:=EH.setLoop_eq h1 h2
      obtain ⟨x3,ts3,e3,k1,_,k2,k3⟩:=hih.code _ _ _ _ _ _ g1 ht1 g3
      obtain ⟨v,e4,m1,m2,m3⟩:=ya6 (ts:=ts3.flatten) k1 k2
      refine ⟨v,e4,m1,m2,fun Q hq=>fin Q fun n m=>app _ _ _ (h3 _ ?_ n m)⟩
      show TodoSem P n m (some l) [.beginRound,.code r.body] _ _
      refine uL (xs:=[.beginRound]) rfl (gay hr1 hst ?_)
      show TodoSem P n m (some l) [.code r.body] _ _
      have:=k3 (qB l Q) (m3 Q hq) n m
      rw [g2] at this
      exact this
     ·cases h2
   | jump j =>
    simp only at h2
    obtain ⟨v,e4,m1,m2,m3⟩:=ya6 (ts:=ts.flatten) h1 h2
    exact ⟨v,e4,m1,m2,fun Q hq=>fin Q fun n m=>app _ _ _ (h3 (vG (fun s=>TodoSem P n m (some l) [.beginRound,.code r.body] s (qB l Q)) (qB l Q)) (m3 Q hq) n m)⟩
  ·cases h
theorem xcd (hX:jv P) (hih:ih.OK P) {f:AV} {args:List AV} {e:EH} {K:AV→EH→Option R} {y:R} (he:e.ok) (h:gag ih f args e K=some y) :
  wl K y (uo P e.abs f args):=by
 unfold gag at h
 split at h
 ·rw [qe] at h
  split at h
  ·obtain ⟨r,e',h1,h2,h3⟩:=hih.call _ _ _ _ _ he h
   exact ⟨r,e',h1,h2,fun Q hq=>.inl (h3 Q hq)⟩
  ·rename_i x hx
   split at h
   ·rename_i r hr
    rw [xj] at h
    exact ⟨r,e,he,h,fun Q hq=>.inr ⟨r,hX.ok _ _ _ _ hx hr,hq⟩⟩
   ·cases h
 ·exact ybA ih hih he h
 ·cases h
def uM (x y:AV) (e:EH) (big:Bool) (K:AV→EH→Option R):Option R :=
 match x with
 | .int k a=>(match y with
  | .int k' b=>(match jj k k' with
   | true=>(match big with
    | true=>xO (max a b) fun n=>K (.int k n) e
    | false=>xO (min a b) fun n=>K (.int k n) e)
   | false=>none)
  | _=>none)
 | _=>none
def uG (s:AV) (e:EH) (K:AV→EH→Option R):Option R :=
 match s with
 | .ms b i len none=>(match e.get b with
  | some (.rows rs g false)=>(match Nat.beq i 0 && zD rs len with
   | true=>K (.ms b i len none) e
   | false=>(match Nat.blt 0 len && Nat.ble (i + len) rs.length with
    | true=>wh ((rs.drop i).take len) fun rows=>e.kill b fun e1=>e1.push (.rows rows false false) fun e2=>K (.ms e1.n 0 len none) e2
    | false=>K (.ms b i len none) e))
  | _=>K (.ms b i len none) e)
 | s=>K s e
omit [Bare] in
theorem yaZ {s:AV} {e:EH} (he:e.ok) {K:AV→EH→Option R} {y:R} (h:uG s e K=some y):∃ s' e',e'.ok∧K s' e'=some y∧((s'=s∧e'.abs=e.abs)∨x9 e.abs s=some (s',e'.abs)):=by
 unfold uG at h
 split at h
 ·rename_i b i len
  rw [EH.get_abs he] at h
  split at h
  ·rename_i rs g hb
   split at h
   ·exact ⟨_,e,he,h,.inl ⟨rfl,rfl⟩⟩
   ·split at h
    ·rename_i hc
     rw [qe] at h
     obtain ⟨e1,k1,k2,k3,k4⟩:=EH.kill_ok he h
     obtain ⟨e2,m1,m2,m3⟩:=EH.push_ok k1 k4
     refine ⟨_,e2,m1,m3,.inr ?_⟩
     simp only [x9,hb,hc]
     rw [m2,k2,k3,EH.len he]
    ·exact ⟨_,e,he,h,.inl ⟨rfl,rfl⟩⟩
  ·exact ⟨_,e,he,h,.inl ⟨rfl,rfl⟩⟩
 ·exact ⟨_,e,he,h,.inl ⟨rfl,rfl⟩⟩
omit [Bare] in
theorem zaZ {T:Tab} {h h':Heap} {t:TypeId} {s s' x:AV} {K:AV→Heap→Prop} (alt:(s'=s∧h'=h)∨x9 h s=some (s',h')) (hap:zr T h' t s' x K):zai T h t s x K:=by
 rcases alt with ⟨h1,h2⟩ | hw
 ·subst h1;subst h2;exact .inl hap
 ·exact .inr (.inl ⟨_,_,hw,hap⟩)
def vbr (s:AV):Option (Nat × Nat):=match s with
 | .ms b i 0 none=>some (b,i)
 | _=>none
def xag (e:EH) (t:TypeId) (b i:Nat) (x:AV) (K:AV→EH→Option R):Option R :=
 match T t with
 | none=>none
 | some ti=>match ti.desc with
  | .slice el=>(match T el with
   | none=>none
   | some ei=>match gV e x with
    | none=>none
    | some new=>wh new fun new=>match Nat.blt 0 ei.size && Nat.blt 0 ei.bytes && vF ei.size new with
     | false=>none
     | true=>(match e.get b with
      | some (.rows (r :: _) _ false)=>(match new with
       | []=>K (.ms b i 0 none) e
       | a :: l=>(match zD r ei.size && Nat.ble ((a :: l).length * ei.bytes) 140737488355328 with
        | true=>gc (a :: l).length fun n=>e.kill b fun e1=>e1.push (.rows (a :: l) true false) fun e2=>K (.ms e1.n 0 n none) e2
        | false=>none))
      | _=>none))
  | _=>none
omit [Bare] in
theorem ub9 {e:EH} (he:e.ok) {t:TypeId} {b i:Nat} {x:AV} {K:AV→EH→Option R} {y:R} (h:xag T e t b i x K=some y) :
  (∃ ti el ei,T t=some ti∧ti.desc=.slice el∧T el=some ei)∧wl K y (zai T e.abs t (.ms b i 0 none) x):=by
 unfold xag at h
 split at h
 ·cases h
 rename_i ti ht
 split at h
 rotate_left
 ·cases h
 rename_i el hd
 obtain ⟨d,sz,by',ze,cm⟩:=ti
 simp only at hd;subst hd
 split at h
 ·cases h
 rename_i ei hei
 split at h
 ·cases h
 rename_i new hnew
 rw [qe] at h
 have hnew:=xam he hnew
 split at h
 ·cases h
 rename_i hc
 simp only [Bool.and_eq_true,Nat.blt_eq] at hc
 obtain ⟨⟨hc1,hc2⟩,hc3⟩:=hc
 have hc3:=vJ hc3
 rw [EH.get_abs he] at h
 split at h
 rotate_left
 ·cases h
 rename_i r rest g hbl
 refine ⟨⟨_,_,_,ht,rfl,hei⟩,?_⟩
 split at h
 ·refine ⟨_,e,he,h,fun Q hq=>.inl ?_⟩
  simp only [zr,ht,hei,hnew,hbl,List.length_nil,if_true]
  exact ⟨⟨hc1,hc2⟩,hc3,hq⟩
 ·rename_i a l
  split at h
  rotate_left
  ·cases h
  rename_i hz
  simp only [Bool.and_eq_true,Nat.ble_eq,yN] at hz
  rw [qd] at h
  obtain ⟨e1,k1,k2,k3,k4⟩:=EH.kill_ok he h
  obtain ⟨e2,m1,m2,m3⟩:=EH.push_ok k1 k4
  refine ⟨_,e2,m1,m3,fun Q hq=>.inr (.inr ?_)⟩
  simp only [vau,hbl,ht,hei,hnew]
  refine ⟨⟨hc1,hc2⟩,hc3,by simp,⟨r,rest,rfl,beq_iff_eq.1 hz.1⟩,hz.2,?_⟩
  rw [m2,k2,k3,← EH.len he] at hq
  exact hq
def jaw (ts:TS) (e:EH) (t u:TypeId) (s x:Operand) (K:AV→EH→Option R):Option R :=
 match T u with
 | none=>none
 | some ui=>(match gE ui.desc with
  | false=>none
  | true=>evK ts s fun sv=>evK ts x fun xv =>
   (match xv with
   | .str _=>(match T t with
    | some ti=>(match ti.desc with
     | .slice el=>(match T el with
      | some ei=>(match Nat.beq ei.size 1 with | true=>uG sv e fun sv e=>qO T e t sv xv fun r e=>vM r e K | false=>none)
      | none=>none)
     | _=>none)
    | none=>none)
   | _=>(match vbr sv with
    | some (b,i)=>xag T e t b i xv K
    | none=>uG sv e fun sv e=>qO T e t sv xv fun r e=>vM r e K)))
def uO (ts:TS) (e:EH) (c:Call) (K:AV→EH→Option R):Option R :=
 match c.callee with
 | .value f=>evK ts f fun fv=>gS ts c.args.toList fun as=>gag ih fv as e K
 | .builtin .len=>(match c.argTypes.toList,c.args.toList with
  | [t],[x]=>evK ts x fun xv=>uaL T e t xv fun r=>K r e
  | _,_=>none)
 | .builtin .append=>(match c.argTypes.toList,c.args.toList with
  | [t,u],[s,x]=>jaw T ts e t u s x K
  | _,_=>none)
 | .builtin .copy=>(match c.argTypes.toList,c.args.toList with
  | [t,_],[d,x]=>evK ts d fun dv=>evK ts x fun xv=>vag T e t dv xv K
  | _,_=>none)
 | .builtin .max=>(match c.args.toList with
  | [x,y]=>evK ts x fun xv=>evK ts y fun yv=>uM xv yv e true K
  | _=>none)
 | .builtin .min=>(match c.args.toList with
  | [x,y]=>evK ts x fun xv=>evK ts y fun yv=>uM xv yv e false K
  | _=>none)
 | _=>none
omit [Gl] [Bare] in
theorem xZ {K:AV→EH→Option R} {e:EH} (he:e.ok) {y:R} {S:(AV→Prop)→Prop} (h:jD (fun r=>K r e) y S):wl K y fun Q=>S fun r=>Q r e.abs:=by
 obtain ⟨r,h1,h2⟩:=h
 exact ⟨r,e,he,h1,fun Q hq=>h2 _ hq⟩
theorem ucd (hX:jv P) (hih:ih.OK P) {ts:TS} (ht:okT ts) {e:EH} {c:Call} {K:AV→EH→Option R} {y:R} (he:e.ok) (h:uO ih T ts e c K=some y) :
  wl K y (ve P T ⟨ts.flatten,e.abs⟩ c):=by
 unfold uO at h
 split at h
 ·rename_i f hc
  rw [xc ht e.abs,qS ht e.abs] at h
  obtain ⟨r,e',h1,h2,h3⟩:=xcd ih hX hih he h
  exact ⟨r,e',h1,h2,fun Q hq=>by simp only [ve,hc];exact h3 Q hq⟩
 ·rename_i hc
  split at h
  ·rename_i t x hat hx
   rw [xc ht e.abs] at h
   obtain ⟨r,e',h1,h2,h3⟩:=xZ he (zbh T he h)
   exact ⟨r,e',h1,h2,fun Q hq=>by simp only [ve,hc,hat,hx];exact h3 Q hq⟩
  ·cases h
 ·rename_i hc
  split at h
  ·rename_i t u s x hat hx
   unfold jaw at h
   split at h
   ·cases h
   ·rename_i ui hu
    split at h
    ·cases h
    ·rename_i hn
     rw [xc ht e.abs,xc ht e.abs] at h
     split at h
     ·rename_i b hb
      split at h
      ·rename_i ti hti
       split at h
       ·rename_i el hd
        split at h
        ·rename_i ei hei
         split at h
         ·rename_i hz
          rw [Nat.beq_eq] at hz
          obtain ⟨s',e2,he2,h,alt⟩:=yaZ he h
          obtain ⟨r0,e0,h1,h2,h3⟩:=qbx T he2 h
          obtain ⟨r,e',g1,g2,g3⟩:=wbe h1 h2
          refine ⟨r,e',g1,g2,fun Q hq => ?_⟩
          have hap:=h3 (fun r h'=>Q r h'∨vC h' r Q) (g3 Q hq)
          have hap2:=zaZ alt hap
          rw [hb] at hap2
          simp only [ve,hc,hat,hx,hti,hu,hd,hei]
          rw [hb]
          exact ⟨⟨hn,hz⟩,hap2⟩
         ·cases h
        ·cases h
       ·cases h
      ·cases h
     ·rename_i hns
      split at h
      ·rename_i b0 i0 hem
       have hsv:(⟨ts.flatten,e.abs⟩:St).ev s=.ms b0 i0 0 none:=by
        unfold vbr at hem
        split at hem
        ·rename_i hs0;injection hem with hem;injection hem with h1 h2;subst h1;subst h2;exact hs0
        ·cases hem
       obtain ⟨hd,r,e',g1,g2,g3⟩:=ub9 T he h
       refine ⟨r,e',g1,g2,fun Q hq => ?_⟩
       have hap2:=g3 (fun r h'=>Q r h'∨vC h' r Q) (.inl hq)
       rw [← hsv] at hap2
       obtain ⟨ti,el,ei,hti,hd,hei⟩:=hd
       simp only [ve,hc,hat,hx,hti,hu,hd,hei]
       refine ⟨⟨hn,?_⟩,hap2⟩
       first
        | trivial
        | (split
           ·rename_i s' hs';exact (hns s' hs').elim
           ·trivial)
      obtain ⟨s',e2,he2,h,alt⟩:=yaZ he h
      obtain ⟨r0,e0,h1,h2,h3⟩:=qbx T he2 h
      obtain ⟨r,e',g1,g2,g3⟩:=wbe h1 h2
      refine ⟨r,e',g1,g2,fun Q hq => ?_⟩
      have hap:=h3 (fun r h'=>Q r h'∨vC h' r Q) (g3 Q hq)
      have hap2:=zaZ alt hap
      have hd:∃ ti el ei,T t=some ti∧ti.desc=.slice el∧T el=some ei:=by
       unfold zr at hap
       split at hap
       ·rename_i el sz by' ze cm htt
        split at hap
        ·rename_i ei new hei _
         exact ⟨_,el,ei,htt,rfl,hei⟩
        ·exact hap.elim
       ·exact hap.elim
      obtain ⟨ti,el,ei,hti,hd,hei⟩:=hd
      simp only [ve,hc,hat,hx,hti,hu,hd,hei]
      refine ⟨⟨hn,?_⟩,hap2⟩
      first
       | trivial
       | (split
          ·rename_i s' hs';exact (hns s' hs').elim
          ·trivial)
  ·cases h
 ·rename_i hc
  split at h
  ·rename_i t u d x hat hx
   rw [xc ht e.abs,xc ht e.abs] at h
   obtain ⟨r,e',h1,h2,h3⟩:=gca T he h
   exact ⟨r,e',h1,h2,fun Q hq=>by simp only [ve,hc,hat,hx];exact h3 Q hq⟩
  ·cases h
 ·rename_i hc
  split at h
  ·rename_i x1 x2 hx
   rw [xc ht e.abs,xc ht e.abs] at h
   unfold uM at h
   split at h
   ·rename_i k a h1
    split at h
    ·rename_i k' b h2
     split at h
     ·rename_i hs
      dsimp only at h
      rw [yO] at h
      have hs:k=k':=by simpa [jj] using hs
      refine ⟨_,e,he,h,fun Q hq => ?_⟩
      simp only [ve,hc,hx,h1,h2]
      exact ⟨hs,hq⟩
     ·cases h
    ·cases h
   ·cases h
  ·cases h
 ·rename_i hc
  split at h
  ·rename_i x1 x2 hx
   rw [xc ht e.abs,xc ht e.abs] at h
   unfold uM at h
   split at h
   ·rename_i k a h1
    split at h
    ·rename_i k' b h2
     split at h
     ·rename_i hs
      dsimp only at h
      rw [yO] at h
      have hs:k=k':=by simpa [jj] using hs
      refine ⟨_,e,he,h,fun Q hq => ?_⟩
      simp only [ve,hc,hx,h1,h2]
      exact ⟨hs,hq⟩
     ·cases h
    ·cases h
   ·cases h
  ·cases h
 ·cases h
def vaQ (t:TypeId) (x:AV) (f:Nat) (K:AV→Option R):Option R:=match gat T t x f with | some r=>fAV r K | none=>none
def vaG (ts:TS) (c:AV) (a b:Operand) (K:AV→Option R):Option R:=match c with
 | .bool t=>(match t with | true=>evK ts a K | false=>evK ts b K)
 | _=>none
def waU (t:TypeId) (ps:List (Nat × AV)) (K:AV→Option R):Option R:=match zaw T t ps with | some r=>fAV r K | none=>none
def unE (op:UnOp) (x:AV) (K:AV→Option R):Option R:=match unA op x with | some r=>fAV r K | none=>none
def yaR (x:AV) (i:Nat) (K:AV→Option R):Option R:=match x with | .tup cs=>(match zw cs i with | some r=>K r | none=>none) | _=>none
def yaJ (e:EH) (x:AV) (K:AV→Option R):Option R :=
 match x with
 | .ptr b i j=>(match e.get b with | some (.rows _ _ _)=>K (.ptr b i j) | _=>none)
 | .vp row j=>K (.vp row j)
 | .gp g j=>K (.gp g j)
 | .fn (.func f) a c=>K (.fn (.func f) a c)
 | .yld l=>(match e.loop l with | some _=>K (.yld l) | none=>none)
 | _=>none
def jbk:AV→Bool
 | .nili | .ifc _ _=>true
 | _=>false
def xbP (x y:AV):Bool:=match x with
 | .ptr _ _ _=>(match y with | .ptr _ _ _=>true | _=>false)
 | _=>false
def uaF (e:EH) (op:BinOp) (t:TypeId) (x y:AV):Option AV:=vaF T e.get op t x y
theorem ua8 {e:EH} (he:e.ok) {op:BinOp} {t:TypeId} {x y:AV}:uaF T e op t x y=yac T e.abs op t x y:=by
 unfold uaF yac
 rw [show e.get=e.abs.blk? from funext (EH.get_abs he)]
def xaV (e:EH) (op:BinOp) (t:TypeId) (ox oy:Operand) (x y:AV) (K:AV→Option R):Option R :=
 match jbk x with
 | true=>(match yap T op t ox oy x y with | some r=>fAV r K | none=>none)
 | false=>(match xbP x y with
  | true=>(match uaF T e op t x y with | some r=>fAV r K | none=>none)
  | false=>uaV T e op t x y K)
abbrev OpH (R:Type):=IH R→Tab→TS→EH→(AV→EH→Option R)→Option R
def vq (x:Operand):OpH R:=fun _ _ ts e K=>evK ts x fun r=>K r e
def zI (c a b:Operand):OpH R:=fun _ _ ts e K=>evK ts c fun c=>vaG ts c a b fun r=>K r e
def ybm (t:TypeId):OpH R:=fun _ T _ e K=>wai T e t K
def yS (t:TypeId) (x:Operand):OpH R:=fun _ T ts e K=>evK ts x fun x=>uah T e t x K
def xJ (t:TypeId) (ps:Array (Nat × Operand)):OpH R:=fun _ T ts e K=>y4 ts ps.toList fun ps=>waU T t ps fun r=>K r e
def zS (t:TypeId) (n:Nat) (ps:Array (Nat × Operand)):OpH R:=fun _ T ts e K=>y4 ts ps.toList fun ps=>yah T e t n ps K
def vI (t:TypeId) (a:Operand):OpH R:=fun _ T ts e K=>evK ts a fun a=>waq T e t a fun r=>K r e
def jR (t:TypeId) (a x:Operand):OpH R:=fun _ T ts e K=>evK ts a fun a=>evK ts x fun x=>vaa T e t a x K
def yI (x:Operand):OpH R:=fun _ _ ts e K=>evK ts x fun x=>yaJ e x fun r=>K r e
def wJ (op:BinOp) (t:TypeId) (ox oy:Operand) (_:TypeId):OpH R:=fun _ T ts e K=>evK ts ox fun x=>evK ts oy fun y=>xaV T e op t ox oy x y fun r=>K r e
def hUn (op:UnOp) (_:TypeId) (x:Operand):OpH R:=fun _ _ ts e K=>evK ts x fun x=>unE op x fun r=>K r e
def yJ (s d:TypeId) (x:Operand):OpH R:=fun _ T ts e K=>evK ts x fun x=>uag T e s d x K
def xI (f:Fn) (a c:Array Operand):OpH R:=fun _ _ ts e K=>gS ts a.toList fun a=>gS ts c.toList fun c=>K (.fn f a c) e
def qR (t:TypeId) (l c:Operand):OpH R:=fun _ T ts e K=>evK ts l fun l=>evK ts c fun c=>zae T e t l c K
def gH (t:TypeId) (x:Operand) (lo hi mx:Option Operand):OpH R:=fun _ T ts e K=>evK ts x fun x=>zag ts lo fun lo=>zag ts hi fun hi=>zag ts mx fun mx=>jaB T e t x lo hi mx fun r=>K r e
def qI (t:TypeId) (x:Operand) (f:Nat):OpH R:=fun _ T ts e K=>evK ts x fun x=>uaQ T e t x f fun r=>K r e
def gI (t:TypeId) (x:Operand) (f:Nat):OpH R:=fun _ T ts e K=>evK ts x fun x=>vaQ T t x f fun r=>K r e
def uI (t:TypeId) (x i:Operand):OpH R:=fun _ T ts e K=>evK ts x fun x=>evK ts i fun i=>jaN T e t x i fun r=>K r e
def jI (t:TypeId) (x i:Operand):OpH R:=fun _ T ts e K=>evK ts x fun x=>evK ts i fun i=>uaN T t x i fun r=>K r e
def zJ (x:Operand) (i:Nat):OpH R:=fun _ _ ts e K=>evK ts x fun x=>yaR x i fun r=>K r e
def zbm (c:Call):OpH R:=fun ih T ts e K=>uO ih T ts e c K
def wq:OpH R:=fun _ _ _ _ _=>none
def gR (_:TypeId) (r:Option Operand):OpH R:=fun _ _ _ e K=>match r with | none=>e.push (.mapb []) fun e'=>K (.mp e.n) e' | some _=>none
def wI (t:TypeId) (x i:Operand) (c:Bool):OpH R:=fun _ T ts e K=>evK ts x fun x=>evK ts i fun i=>jaK T e t x i c fun r=>K r e
def xw (t:TypeId) (m k x:Operand):OpH R:=fun _ T ts e K=>evK ts m fun m=>evK ts k fun k=>evK ts x fun x=>uad T e t m k x K
def ubV (o:Op):OpH R :=
 match o with
 | .move x=>vq x
 | .assign x=>vq x
 | .pick c a b=>zI c a b
 | .alloc t=>ybm t
 | .box t x=>yS t x
 | .build t ps=>xJ t ps
 | .buildSlice t n ps=>zS t n ps
 | .load t a=>vI t a
 | .store t a x=>jR t a x
 | .nilCheck x=>yI x
 | .binOp op t x y u=>wJ op t x y u
 | .unOp op t x=>hUn op t x
 | .convert s d x=>yJ s d x
 | .makeFunc f a c=>xI f a c
 | .makeSlice t l c=>qR t l c
 | .slice t x lo hi mx=>gH t x lo hi mx
 | .fieldAddr t x f=>qI t x f
 | .field t x f=>gI t x f
 | .indexAddr t x i=>uI t x i
 | .index t x i=>jI t x i
 | .extract x i=>zJ x i
 | .call c=>zbm c
 | .makeMap t r=>gR t r
 | .lookup t x i c=>wI t x i c
 | .mapUpdate t m k x=>xw t m k x
 | .insert t m k x=>xw t m k x
 | _=>wq
noncomputable def jbV (o:Op):OpH R :=
  Op.rec (motive:=fun _=>OpH R) vq vq zI ybm yS xJ zS xw vI jR (fun _=>wq) (fun _=>wq) yI wJ hUn yJ
   (fun _ _=>wq) (fun _ _=>wq) xI gR (fun _ _=>wq) qR gH qI gI uI jI wI xw
   (fun _ _ _=>wq) (fun _ _ _ _=>wq) (fun _ _=>wq) (fun _ _=>wq) (fun _=>wq) (fun _ _ _ _=>wq) zJ zbm (fun _=>wq) (fun _=>wq) (fun _=>wq)
   (fun _ _=>wq) (fun _ _ _=>wq) (fun _ _=>wq) o
def opE (ts:TS) (e:EH) (o:Oper) (K:AV→EH→Option R):Option R:=jbV o.op ih T ts e K
theorem ubc (hX:jv P) (hih:ih.OK P) {ts:TS} (ht:okT ts) {e:EH} {o:Oper} {K:AV→EH→Option R} {y:R} (he:e.ok) (h:opE ih T ts e o K=some y) :
  wl K y (opW P T ⟨ts.flatten,e.abs⟩ o):=by
 obtain ⟨dst,op,type,pos,after,guard⟩:=o
 have one:∀ {r:AV},K r e=some y→(∀ Q:AV→Heap→Prop,Q r e.abs→opW P T ⟨ts.flatten,e.abs⟩ ⟨dst,op,type,pos,after,guard⟩ Q)→wl K y (opW P T ⟨ts.flatten,e.abs⟩ ⟨dst,op,type,pos,after,guard⟩) :=
  fun h1 h2=>⟨_,e,he,h1,h2⟩
 have two:∀ {S:(AV→Heap→Prop)→Prop},wl K y S→(∀ Q,S Q→opW P T ⟨ts.flatten,e.abs⟩ ⟨dst,op,type,pos,after,guard⟩ Q)→wl K y (opW P T ⟨ts.flatten,e.abs⟩ ⟨dst,op,type,pos,after,guard⟩) :=
  fun ⟨r,e',h1,h2,h3⟩ h4=>⟨r,e',h1,h2,fun Q hq=>h4 Q (h3 Q hq)⟩
 unfold opE at h
 simp only at h
 cases op
 case move x=>replace h:vq x ih T ts e K=some y:=h;unfold vq at h;rw [xc ht e.abs] at h;exact one h fun Q hq=>hq
 case assign x=>replace h:vq x ih T ts e K=some y:=h;unfold vq at h;rw [xc ht e.abs] at h;exact one h fun Q hq=>hq
 case pick c a b =>
  replace h:zI c a b ih T ts e K=some y:=h
  unfold zI at h
  rw [xc ht e.abs] at h
  unfold vaG at h
  split at h
  ·rename_i t hb
   split at h
   ·rw [xc ht e.abs] at h;exact one h fun Q hq=>by simp only [opW,hb];exact hq
   ·rw [xc ht e.abs] at h;exact one h fun Q hq=>by simp only [opW,hb];exact hq
  ·cases h
 case alloc t=>exact two (uch T he h) fun Q hq=>hq
 case box t x=>replace h:yS t x ih T ts e K=some y:=h;unfold yS at h;rw [xc ht e.abs] at h;exact two (uce T he h) fun Q hq=>hq
 case build t ps =>
  replace h:xJ t ps ih T ts e K=some y:=h
  unfold xJ at h
  rw [gaf ht e.abs] at h
  unfold waU at h
  split at h
  ·rename_i r hr
   rw [xj] at h
   exact one h fun Q hq=>by simp only [opW,hr];exact hq
  ·cases h
 case buildSlice t n ps=>replace h:zS t n ps ih T ts e K=some y:=h;unfold zS at h;rw [gaf ht e.abs] at h;exact two (qcd T he h) fun Q hq=>hq
 case load t a =>
  replace h:vI t a ih T ts e K=some y:=h
  unfold vI at h
  rw [xc ht e.abs] at h
  obtain ⟨r,h1,h2⟩:=gaK T he h
  exact one h2 fun Q hq=>by simp only [opW,h1];exact hq
 case store t a x =>
  replace h:jR t a x ih T ts e K=some y:=h
  unfold jR at h
  rw [xc ht e.abs,xc ht e.abs] at h
  obtain ⟨h',e',h1,h2,h3,h4⟩:=zbF T he h
  exact ⟨_,e',h2,h4,fun Q hq=>by simp only [opW,h1];exact h3 ▸ hq⟩
 case nilCheck x =>
  replace h:yI x ih T ts e K=some y:=h
  unfold yI at h
  rw [xc ht e.abs] at h
  unfold yaJ at h
  split at h
  ·rename_i b i j hx
   rw [EH.get_abs he] at h
   split at h
   ·rename_i hb;exact one h fun Q hq=>by simp only [opW,qx,hx,hb];exact hq
   ·cases h
  ·rename_i hx;exact one h fun Q hq=>by simp only [opW,qx,hx];exact hq
  ·rename_i hx;exact one h fun Q hq=>by simp only [opW,qx,hx];exact hq
  ·rename_i hx;exact one h fun Q hq=>by simp only [opW,qx,hx];exact hq
  ·rename_i l hx
   rw [EH.loop_abs] at h
   split at h
   ·rename_i hb;exact one h fun Q hq=>by simp only [opW,qx,hx,hb];exact hq
   ·cases h
  ·cases h
 case binOp op t ox oy u =>
  replace h:wJ op t ox oy u ih T ts e K=some y:=h
  unfold wJ at h
  rw [xc ht e.abs,xc ht e.abs] at h
  unfold xaV at h
  split at h
  ·split at h
   ·rename_i r hr
    rw [xj] at h
    exact one h fun Q hq=>.inr ⟨r,.inl hr,hq⟩
   ·cases h
  ·split at h
   ·split at h
    ·rename_i r hr
     rw [xj] at h
     rw [ua8 T he] at hr
     exact one h fun Q hq=>.inr ⟨r,.inr hr,hq⟩
    ·cases h
   ·exact two (xZ he (zbx T he h)) fun Q hq=>.inl hq
 case unOp op t x =>
  replace h:hUn op t x ih T ts e K=some y:=h
  unfold hUn at h
  rw [xc ht e.abs] at h
  unfold unE at h
  split at h
  ·rename_i r hr
   rw [xj] at h
   exact one h fun Q hq=>by simp only [opW,hr];exact hq
  ·cases h
 case convert s d x=>replace h:yJ s d x ih T ts e K=some y:=h;unfold yJ at h;rw [xc ht e.abs] at h;exact two ((zbt T he h).went he) fun Q hq=>hq
 case makeFunc f a c=>replace h:xI f a c ih T ts e K=some y:=h;unfold xI at h;rw [qS ht e.abs,qS ht e.abs] at h;exact one h fun Q hq=>hq
 case makeSlice t l c=>replace h:qR t l c ih T ts e K=some y:=h;unfold qR at h;rw [xc ht e.abs,xc ht e.abs] at h;exact two (xbY T he h) fun Q hq=>hq
 case slice t x lo hi mx =>
  replace h:gH t x lo hi mx ih T ts e K=some y:=h
  unfold gH at h
  rw [xc ht e.abs,y5 ht e.abs,y5 ht e.abs,y5 ht e.abs] at h
  exact two (xZ he (ja3 T he h)) fun Q hq=>hq
 case fieldAddr t x f =>
  replace h:qI t x f ih T ts e K=some y:=h
  unfold qI at h
  rw [xc ht e.abs] at h
  obtain ⟨r,h1,h2⟩:=qbp T he h
  exact one h2 fun Q hq=>by simp only [opW,h1];exact hq
 case field t x f =>
  replace h:gI t x f ih T ts e K=some y:=h
  unfold gI at h
  rw [xc ht e.abs] at h
  unfold vaQ at h
  split at h
  ·rename_i r hr
   rw [xj] at h
   exact one h fun Q hq=>by simp only [opW,hr];exact hq
  ·cases h
 case indexAddr t x i=>replace h:uI t x i ih T ts e K=some y:=h;unfold uI at h;rw [xc ht e.abs,xc ht e.abs] at h;exact two (xZ he (vbk T he h)) fun Q hq=>hq
 case index t x i=>replace h:jI t x i ih T ts e K=some y:=h;unfold jI at h;rw [xc ht e.abs,xc ht e.abs] at h;exact two (xZ he (wbk T h)) fun Q hq=>hq
 case extract x i =>
  replace h:zJ x i ih T ts e K=some y:=h
  unfold zJ at h
  rw [xc ht e.abs] at h
  unfold yaR at h
  split at h
  ·rename_i cs hx
   rw [qu] at h
   split at h
   ·rename_i r hr
    exact one h fun Q hq=>by simp only [opW,hx,hr];exact hq
   ·cases h
  ·cases h
 case makeMap t r =>
  replace h:gR t r ih T ts e K=some y:=h
  unfold gR at h
  split at h
  ·obtain ⟨e',h1,h2,h3⟩:=EH.push_ok he h
   exact ⟨_,e',h1,h3,fun Q hq=>by simp only [opW];rw [EH.len he,← h2];exact hq⟩
  ·cases h
 case lookup t x i c =>
  replace h:wI t x i c ih T ts e K=some y:=h
  unfold wI at h
  rw [xc ht e.abs,xc ht e.abs] at h
  exact two (xZ he (jbg T he h)) fun Q hq=>hq
 case mapUpdate t m k x =>
  replace h:xw t m k x ih T ts e K=some y:=h
  unfold xw at h
  rw [xc ht e.abs,xc ht e.abs,xc ht e.abs] at h
  obtain ⟨e',h1,h2,h3⟩:=vbf T he h
  exact ⟨_,e',h1,h2,fun Q hq=>h3 (fun h'=>Q .junk h') hq⟩
 case insert t m k x =>
  replace h:xw t m k x ih T ts e K=some y:=h
  unfold xw at h
  rw [xc ht e.abs,xc ht e.abs,xc ht e.abs] at h
  obtain ⟨e',h1,h2,h3⟩:=vbf T he h
  exact ⟨_,e',h1,h2,fun Q hq=>h3 (fun h'=>Q .junk h') hq⟩
 case call c=>exact two (ucd ih T hX hih ht he h) fun Q hq=>hq
 all_goals exact absurd h (by intro h;cases h)
def wN:Op→Bool
 | .alloc _ | .box _ _ | .buildSlice _ _ _ | .makeSlice _ _ _ | .store _ _ _ | .makeMap _ _ | .mapUpdate _ _ _ _ | .insert _ _ _ _=>true
 | .call c=>(match c.callee with
  | .builtin .len | .builtin .max | .builtin .min=>false
  | _=>true)
 | _=>false
theorem qbV {ts:TS} (ht:okT ts) {e:EH} {o:Oper} {K:AV→EH→Option R} {y:R} (he:e.ok) (hw:wN o.op=false) (h:opE ih T ts e o K=some y) :
  Quiet K e y (opW P T ⟨ts.flatten,e.abs⟩ o):=by
 obtain ⟨dst,op,type,pos,after,guard⟩:=o
 have one:∀ {r:AV},K r e=some y→(∀ Q:AV→Heap→Prop,Q r e.abs→opW P T ⟨ts.flatten,e.abs⟩ ⟨dst,op,type,pos,after,guard⟩ Q)→Quiet K e y (opW P T ⟨ts.flatten,e.abs⟩ ⟨dst,op,type,pos,after,guard⟩) :=
  fun h1 h2=>⟨_,h1,h2⟩
 have two:∀ {S:(AV→Prop)→Prop},jD (fun r=>K r e) y S→(∀ Q:AV→Heap→Prop,S (fun r=>Q r e.abs)→opW P T ⟨ts.flatten,e.abs⟩ ⟨dst,op,type,pos,after,guard⟩ Q)→Quiet K e y (opW P T ⟨ts.flatten,e.abs⟩ ⟨dst,op,type,pos,after,guard⟩) :=
  fun ⟨r,h1,h3⟩ h4=>⟨r,h1,fun Q hq=>h4 Q (h3 _ hq)⟩
 unfold opE at h
 simp only at h
 cases op
 case move x=>replace h:vq x ih T ts e K=some y:=h;unfold vq at h;rw [xc ht e.abs] at h;exact one h fun Q hq=>hq
 case assign x=>replace h:vq x ih T ts e K=some y:=h;unfold vq at h;rw [xc ht e.abs] at h;exact one h fun Q hq=>hq
 case pick c a b =>
  replace h:zI c a b ih T ts e K=some y:=h
  unfold zI at h
  rw [xc ht e.abs] at h
  unfold vaG at h
  split at h
  ·rename_i t hb
   split at h
   ·rw [xc ht e.abs] at h;exact one h fun Q hq=>by simp only [opW,hb];exact hq
   ·rw [xc ht e.abs] at h;exact one h fun Q hq=>by simp only [opW,hb];exact hq
  ·cases h
 case alloc t=>cases hw
 case box t x=>cases hw
 case build t ps =>
  replace h:xJ t ps ih T ts e K=some y:=h
  unfold xJ at h
  rw [gaf ht e.abs] at h
  unfold waU at h
  split at h
  ·rename_i r hr
   rw [xj] at h
   exact one h fun Q hq=>by simp only [opW,hr];exact hq
  ·cases h
 case buildSlice t n ps=>cases hw
 case load t a =>
  replace h:vI t a ih T ts e K=some y:=h
  unfold vI at h
  rw [xc ht e.abs] at h
  obtain ⟨r,h1,h2⟩:=gaK T he h
  exact one h2 fun Q hq=>by simp only [opW,h1];exact hq
 case store t a x=>cases hw
 case nilCheck x =>
  replace h:yI x ih T ts e K=some y:=h
  unfold yI at h
  rw [xc ht e.abs] at h
  unfold yaJ at h
  split at h
  ·rename_i b i j hx
   rw [EH.get_abs he] at h
   split at h
   ·rename_i hb;exact one h fun Q hq=>by simp only [opW,qx,hx,hb];exact hq
   ·cases h
  ·rename_i hx;exact one h fun Q hq=>by simp only [opW,qx,hx];exact hq
  ·rename_i hx;exact one h fun Q hq=>by simp only [opW,qx,hx];exact hq
  ·rename_i hx;exact one h fun Q hq=>by simp only [opW,qx,hx];exact hq
  ·rename_i l hx
   rw [EH.loop_abs] at h
   split at h
   ·rename_i hb;exact one h fun Q hq=>by simp only [opW,qx,hx,hb];exact hq
   ·cases h
  ·cases h
 case binOp op t ox oy u =>
  replace h:wJ op t ox oy u ih T ts e K=some y:=h
  unfold wJ at h
  rw [xc ht e.abs,xc ht e.abs] at h
  unfold xaV at h
  split at h
  ·split at h
   ·rename_i r hr
    rw [xj] at h
    exact one h fun Q hq=>.inr ⟨r,.inl hr,hq⟩
   ·cases h
  ·split at h
   ·split at h
    ·rename_i r hr
     rw [xj] at h
     rw [ua8 T he] at hr
     exact one h fun Q hq=>.inr ⟨r,.inr hr,hq⟩
    ·cases h
   ·exact two (zbx T he h) fun Q hq=>.inl hq
 case unOp op t x =>
  replace h:hUn op t x ih T ts e K=some y:=h
  unfold hUn at h
  rw [xc ht e.abs] at h
  unfold unE at h
  split at h
  ·rename_i r hr
   rw [xj] at h
   exact one h fun Q hq=>by simp only [opW,hr];exact hq
  ·cases h
 case convert s d x=>replace h:yJ s d x ih T ts e K=some y:=h;unfold yJ at h;rw [xc ht e.abs] at h;exact zbt T he h
 case makeFunc f a c=>replace h:xI f a c ih T ts e K=some y:=h;unfold xI at h;rw [qS ht e.abs,qS ht e.abs] at h;exact one h fun Q hq=>hq
 case makeSlice t l c=>cases hw
 case slice t x lo hi mx =>
  replace h:gH t x lo hi mx ih T ts e K=some y:=h
  unfold gH at h
  rw [xc ht e.abs,y5 ht e.abs,y5 ht e.abs,y5 ht e.abs] at h
  exact two (ja3 T he h) fun Q hq=>hq
 case fieldAddr t x f =>
  replace h:qI t x f ih T ts e K=some y:=h
  unfold qI at h
  rw [xc ht e.abs] at h
  obtain ⟨r,h1,h2⟩:=qbp T he h
  exact one h2 fun Q hq=>by simp only [opW,h1];exact hq
 case field t x f =>
  replace h:gI t x f ih T ts e K=some y:=h
  unfold gI at h
  rw [xc ht e.abs] at h
  unfold vaQ at h
  split at h
  ·rename_i r hr
   rw [xj] at h
   exact one h fun Q hq=>by simp only [opW,hr];exact hq
  ·cases h
 case indexAddr t x i=>replace h:uI t x i ih T ts e K=some y:=h;unfold uI at h;rw [xc ht e.abs,xc ht e.abs] at h;exact two (vbk T he h) fun Q hq=>hq
 case index t x i=>replace h:jI t x i ih T ts e K=some y:=h;unfold jI at h;rw [xc ht e.abs,xc ht e.abs] at h;exact two (wbk T h) fun Q hq=>hq
 case extract x i =>
  replace h:zJ x i ih T ts e K=some y:=h
  unfold zJ at h
  rw [xc ht e.abs] at h
  unfold yaR at h
  split at h
  ·rename_i cs hx
   rw [qu] at h
   split at h
   ·rename_i r hr
    exact one h fun Q hq=>by simp only [opW,hx,hr];exact hq
   ·cases h
  ·cases h
 case makeMap t r=>cases hw
 case lookup t x i c =>
  replace h:wI t x i c ih T ts e K=some y:=h
  unfold wI at h
  rw [xc ht e.abs,xc ht e.abs] at h
  exact two (jbg T he h) fun Q hq=>hq
 case mapUpdate t m k x=>cases hw
 case insert t m k x=>cases hw
 case call c =>
  replace h:uO ih T ts e c K=some y:=h
  unfold uO at h
  split at h
  ·rename_i f hc;simp [wN,hc] at hw
  ·rename_i hc
   split at h
   ·rename_i t x hat hx
    rw [xc ht e.abs] at h
    obtain ⟨r,h1,h2⟩:=zbh T he h
    exact ⟨r,h1,fun Q hq=>by simp only [opW,ve,hc,hat,hx];exact h2 _ hq⟩
   ·cases h
  ·rename_i hc;simp [wN,hc] at hw
  ·rename_i hc;simp [wN,hc] at hw
  ·rename_i hc
   split at h
   ·rename_i x1 x2 hx
    rw [xc ht e.abs,xc ht e.abs] at h
    unfold uM at h
    split at h
    ·rename_i k a h1
     split at h
     ·rename_i k' b h2
      split at h
      ·rename_i hs
       dsimp only at h
       rw [yO] at h
       have hs:k=k':=by simpa [jj] using hs
       refine ⟨_,h,fun Q hq => ?_⟩
       simp only [opW,ve,hc,hx,h1,h2]
       exact ⟨hs,hq⟩
      ·cases h
     ·cases h
    ·cases h
   ·cases h
  ·rename_i hc
   split at h
   ·rename_i x1 x2 hx
    rw [xc ht e.abs,xc ht e.abs] at h
    unfold uM at h
    split at h
    ·rename_i k a h1
     split at h
     ·rename_i k' b h2
      split at h
      ·rename_i hs
       dsimp only at h
       rw [yO] at h
       have hs:k=k':=by simpa [jj] using hs
       refine ⟨_,h,fun Q hq => ?_⟩
       simp only [opW,ve,hc,hx,h1,h2]
       exact ⟨hs,hq⟩
      ·cases h
     ·cases h
    ·cases h
   ·cases h
  ·cases h
 all_goals exact absurd h (by intro h;cases h)
end ops
end
end Go.Abs
