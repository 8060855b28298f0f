/-
  Steps to a law of this program: AbsDraw4, AbsCalm.
  Conditions: none.
-/
import Derived.Test.YtpdnijifmebnbaaGreatDoorB13
import Derived.Test.YtpdnijifmebnbaaGreatDoorB12
set_option linter.unusedVariables false
set_option linter.unusedSimpArgs false
set_option linter.unusedSectionVars false
namespace Go.Abs
noncomputable section
variable [Gl] [Bare]
section masks
def zT (acc:List Nat):List Edge→Nat
 | []=>0
 | e :: r=>match Region.binds .any e with
  | true=>Nat.lor (Nat.lor (Nat.shiftLeft 1 e.on) (acc.getD e.on 0)) (zT acc r)
  | false=>zT acc r
def gap:List Oper→List Nat→List Nat
 | [],acc=>acc
 | o :: r,acc=>gap r (acc ++ [zT acc o.after.toList])
omit [Gl] [Bare] in
theorem uaR {ops:Array Oper} {acc:List Nat} (hacc:∀ i j,(acc.getD i 0).testBit j=true→Bef ops j i) {i:Nat} {o:Oper} (ho:ops[i]? = some o) :
  ∀ (l:List Edge),(∀ e∈l,e∈o.after)→∀ j,(zT acc l).testBit j=true→Bef ops j i
 | [],_,j,h=>by simp [zT] at h
 | e :: r,hl,j,h=>by
  unfold zT at h
  split at h
  ·rename_i hb
   have he:Bef ops e.on i:=.edge o e i ho (hl e (by simp)) hb
   have h':(((1 <<< e.on) ||| (acc.getD e.on 0)) ||| zT acc r).testBit j=true:=h
   rw [Nat.testBit_or,Nat.testBit_or,Bool.or_eq_true,Bool.or_eq_true] at h'
   rcases h' with (h1 | h1) | h1
   ·rw [Nat.one_shiftLeft,Nat.testBit_two_pow] at h1
    have:e.on=j:=by simpa using h1
    exact this ▸ he
   ·exact .trans j e.on i (hacc _ _ h1) he
   ·exact uaR hacc ho r (fun e he=>hl e (by simp [he])) j h1
  ·exact uaR hacc ho r (fun e he=>hl e (by simp [he])) j h
theorem ybf {ops:Array Oper}:∀ (l:List Oper) (acc:List Nat),ops.toList.drop acc.length=l→(∀ i j,(acc.getD i 0).testBit j=true→Bef ops j i) →
  ∀ i j,((gap l acc).getD i 0).testBit j=true→Bef ops j i
 | [],acc,_,hacc=>hacc
 | o :: r,acc,hk,hacc=>by
  have hlt:acc.length < ops.toList.length:=by
   rcases Nat.lt_or_ge acc.length ops.toList.length with h | h
   ·exact h
   ·rw [List.drop_eq_nil_of_le h] at hk;cases hk
  rw [List.drop_eq_getElem_cons hlt] at hk
  injection hk with h1 h2
  have ho:ops[acc.length]? = some o:=by
   rw [← h1,Array.getElem_toList]
   exact Array.getElem?_eq_getElem (by simpa using hlt)
  unfold gap
  refine ybf r _ (by simpa using h2) fun i j h => ?_
  rcases Nat.lt_trichotomy i acc.length with hi | hi | hi
  ·rw [List.getD_eq_getElem?_getD,List.getElem?_append_left hi,← List.getD_eq_getElem?_getD] at h
   exact hacc i j h
  ·subst hi
   rw [List.getD_eq_getElem?_getD,List.getElem?_append_right (Nat.le_refl _)] at h
   simp only [Nat.sub_self,List.getElem?_cons_zero,Option.getD_some] at h
   exact uaR hacc ho _ (fun e he=>by simpa using he) j h
  ·rw [List.getD_eq_getElem?_getD,List.getElem?_eq_none (by simp;omega)] at h
   simp at h
def qj (ops:Array Oper):List Nat:=gap ops.toList []
theorem wad {ops:Array Oper}:∀ i j,((qj ops).getD i 0).testBit j=true→Bef ops j i :=
 ybf ops.toList [] rfl fun i j h=>by simp at h
def yaW (ops:List (Oper × Nat)):Bool:=ops.all fun p=>p.1.after.toList.all fun e => !Region.binds .any e || Nat.blt e.on p.2
def yai (ops:Array Oper) (ms:List Nat):List (Oper × Nat)→Bool
 | []=>true
 | p :: l=>(l.all fun q=>p.1.apart ops q.1 || Nat.testBit (ms.getD q.2 0) p.2) && yai ops ms l
def uv (ops:Array Oper):Bool:=yaW ops.toList.zipIdx && yai ops (qj ops) ops.toList.zipIdx
omit [Gl] [Bare] in
theorem wbx {ops:Array Oper} (h:yaW ops.toList.zipIdx=true):∀ j i,Bef ops j i→j < i:=by
 intro j i hb
 induction hb with
 | edge o e i ho he hb =>
  unfold yaW at h
  have hm:(o,i)∈ops.toList.zipIdx:=List.mem_zipIdx_iff_getElem?.2 (by simpa using ho)
  have:=List.all_eq_true.1 (List.all_eq_true.1 h _ hm) e (by simpa using he)
  simpa [hb,Nat.blt_eq] using this
 | trans j k i _ _ a b=>omega
omit [Gl] [Bare] in
theorem zby {ops:Array Oper} {ms:List Nat}:∀ {l:List (Oper × Nat)},yai ops ms l=true→∀ (a b:Nat) (hab:a < b) (hb:b < l.length),(l[a].1.apart ops l[b].1 || Nat.testBit (ms.getD l[b].2 0) l[a].2)=true
 | [],_,_,_,_,hb=>by simp at hb
 | p :: l,h,a,b,hab,hb=>by
  unfold yai at h
  rw [Bool.and_eq_true] at h
  obtain ⟨b',rfl⟩:∃ b',b=b' + 1:=⟨b - 1,by omega⟩
  cases a with
  | zero=>exact List.all_eq_true.1 h.1 _ (List.getElem_mem _)
  | succ a=>exact zby h.2 a b' (by omega) (by simpa using hb)
theorem gbx {ops:Array Oper} (h:yai ops (qj ops) ops.toList.zipIdx=true) :
  ∀ i j oi oj d,ops[i]? = some oi→ops[j]? = some oj→i≠j→oi.dst=some d→(d∈oj.looksAt ops∨oj.dst=some d)→Bef ops i j∨Bef ops j i:=by
 have key:∀ i j oi oj,i < j→ops[i]? = some oi→ops[j]? = some oj→oi.apart ops oj=true∨Bef ops i j:=fun i j oi oj hij hi hj=>by
  have hl:j < ops.toList.zipIdx.length:=by
   have:=(Array.getElem?_eq_some_iff.1 hj).1
   simpa using this
  have:=zby h i j hij hl
  obtain ⟨hi',ei⟩:=Array.getElem?_eq_some_iff.1 hi
  obtain ⟨hj',ej⟩:=Array.getElem?_eq_some_iff.1 hj
  simp only [List.getElem_zipIdx,Array.getElem_toList,Nat.zero_add,ei,ej] at this
  rw [Bool.or_eq_true] at this
  exact this.imp id (wad j i)
 intro i j oi oj d hi hj hne hd hn
 rcases Nat.lt_or_gt_of_ne hne with hlt | hlt
 ·rcases key i j oi oj hlt hi hj with h | h
  ·obtain ⟨h1,h2,_⟩:=Oper.apart_spec h
   rcases hn with hn | hn
   ·exact absurd hn (h1 d hd)
   ·exact absurd hn (h2 d hd)
  ·exact .inl h
 ·rcases key j i oj oi hlt hj hi with h | h
  ·obtain ⟨_,h2,h3⟩:=Oper.apart_spec h
   rcases hn with hn | hn
   ·exact absurd hn (h3 d hd)
   ·exact absurd hd (h2 d hn)
  ·exact .inr h
end masks
structure Sil where
 j:Nat
 o:Oper
 ts:TS
 r:AV
section run
variable {R:Type} (ih:IH R) (T:Tab) {P:Program}
variable (M:FuncId→Option (List AV→Option AV))
def gaL (fv:AV) (args:List AV) (e:EH) (K:AV→Option R):Option R :=
 match fv with
 | .fn (.func g) first cap=>match M g with
  | none=>none
  | some x=>wh (first ++ args ++ cap) fun all=>ww (frz 30 e) all fun as=>match x as with
   | some r=>(match uB r with
    | (x,true)=>fAV x fun x=>K x
    | (x,false)=>fAV x fun x=>(match vQ 30 x with
     | true=>K x
     | false=>(match jw (qq 30) all as with | true=>K x | false=>none)))
   | none=>none
 | _=>none
def qE (ts:TS) (e:EH) (o:Oper) (K:AV→Option R):Option R :=
 match wN o.op with
 | false=>opE ih T ts e o fun r _=>K r
 | true=>match o.op with
  | .buildSlice t n ps=>y4 ts ps.toList fun ps=>xaU T t n ps K
  | .call c=>(match c.callee with
   | .value f=>evK ts f fun fv=>gS ts c.args.toList fun as=>gaL M fv as e K
   | _=>none)
  | _=>none
omit [Bare] in
theorem jbZ (hM:yr P M) {fv:AV} {args:List AV} {e:EH} {K:AV→Option R} {y:R} (he:e.ok) (h:gaL M fv args e K=some y) :
  ∃ r,K r=some y∧∀ Q:AV→Heap→Prop,Q r e.abs→uo P e.abs fv args Q:=by
 unfold gaL at h
 split at h
 ·rename_i g first cap
  split at h
  ·cases h
  ·rename_i x hx
   rw [qe] at h
   obtain ⟨as,h1,h2⟩:=uF (vas he 30) _ _ _ h
   split at h2
   ·rename_i r hr
    have hq:=hM.ok g x as r hx h1.pure hr
    split at h2
    ·rename_i z hu
     rw [xj] at h2
     exact ⟨z,h2,fun Q hk=>.inl (qbu h1.len h1.frz (hq.fresh hu) hk)⟩
    rename_i z hu
    rw [xj] at h2
    have hp:=hq.pure hu
    split at h2
    ·rename_i hpl
     exact ⟨z,h2,fun Q hq=>.inl (qav h1.len h1.frz hp (xaG _ _ hpl) hq)⟩
    ·split at h2
     ·rename_i hb
      have:=gA (yG 30) hb
      exact ⟨z,h2,fun Q hq=>.inl (by rw [this];exact uaT h1.pure hp hq)⟩
     ·cases h2
   ·cases h2
 ·cases h
theorem va7 (hM:yr P M) {ts:TS} (ht:okT ts) {e:EH} {o:Oper} {K:AV→Option R} {y:R} (he:e.ok) (h:qE ih T M ts e o K=some y) :
  ∃ r,K r=some y∧∀ Q:AV→Heap→Prop,Q r e.abs→opW P T ⟨ts.flatten,e.abs⟩ o Q:=by
 unfold qE at h
 split at h
 ·rename_i hw
  exact qbV (P:=P) ih T ht he hw h
 ·obtain ⟨dst,op,type,pos,after,guard⟩:=o
  simp only at h
  split at h
  ·rw [gaf ht e.abs] at h
   exact zce (h:=e.abs) T h
  ·rename_i c _
   split at h
   ·rename_i f hc
    rw [xc ht e.abs,qS ht e.abs] at h
    obtain ⟨r,h1,h2⟩:=jbZ (P:=P) M hM he h
    exact ⟨r,h1,fun Q hq=>by simp only [opW,ve,hc];exact h2 Q hq⟩
   ·cases h
  ·cases h
def jal (o:Oper) (ts:TS) (e:EH) (r:AV) (c:Unit→Option R):Option R:=qE ih T M ts e o fun r'=>match qq 30 r' r with | true=>c () | false=>none
def zM (mk:Nat) (e:EH) (c:Unit→Option R):List Sil→Option R
 | []=>c ()
 | s :: l=>match Nat.testBit mk s.j with
  | true=>zM mk e c l
  | false=>jal ih T M s.o s.ts e s.r fun _=>zM mk e c l
def zW (mk:Nat) (o:Oper) (ts:TS) (r:AV) (c:Unit→Option R):List (Nat × EH)→Option R
 | []=>c ()
 | p :: l=>match Nat.testBit mk p.1 with
  | true=>zW mk o ts r c l
  | false=>jal ih T M o ts p.2 r fun _=>zW mk o ts r c l
def waL:Op→Bool
 | .buildSlice _ _ _=>true
 | .call c=>(match c.callee with | .value (.func f)=>(match M f with | some _=>true | none=>false) | _=>false)
 | _=>false
def jbY (ops:Array Oper) (ms:List Nat) (k:Nat):Bool :=
 ops.toList.zipIdx.any fun p=>wN p.1.op && !(Nat.beq p.2 k) && !(Nat.testBit (ms.getD k 0) p.2) && !(Nat.testBit (ms.getD p.2 0) k)
def jb4 (mk:Nat):List (Nat × EH)→Bool
 | []=>true
 | p :: _=>Nat.testBit mk p.1
def wv (ops:Array Oper) (ms lt:List Nat) (K:gb→TS→EH→Option R):List Oper→Nat→List (Nat × EH)→List Sil→TS→EH→Option R
 | [],_,_,_,ts,e=>K .normal ts e
 | o :: rest,k,past,sil,ts,e =>
  match yas ops ts o with
  | none=>none
  | some false=>zC ts o.dst (.tup []) fun ts'=>wv ops ms lt K rest (k + 1) past sil ts' e
  | some true=>match wN o.op && !(waL M o.op && lt.any (Nat.beq k)) with
   | true=>(match jb4 (ms.getD k 0) past with
    | false=>none
    | true=>opE ih T ts e o fun r e'=>zM ih T M (ms.getD k 0) e' (fun _=>zC ts o.dst r fun ts'=>wv ops ms lt K rest (k + 1) ((k,e) :: past) sil ts' e') sil)
   | false=>qE ih T M ts e o fun r=>zW ih T M (ms.getD k 0) o ts r (fun _=>zC ts o.dst r fun ts'=>wv ops ms lt K rest (k + 1) past (⟨k,o,ts,r⟩ :: sil) ts' e) past
def jaq (hd:Op→Bool) (ops:Array Oper):List Nat :=
 let ms:=qj ops
 (List.range ops.size).filter fun k=>match ops[k]? with | some o=>waL M o.op && !(hd o.op) && jbY ops ms k | none=>false
def qau (lt:List Nat):zL R:=fun ih ops ts e K=>match uv ops with
 | true=>wv ih T M ops (qj ops) lt K ops.toList 0 [] [] ts e
 | false=>none
def gh:zL R:=fun ih ops ts e K=>qau T M (jaq M (fun _=>false) ops) ih ops ts e K
theorem ya5 (hM:yr P M) {o:Oper} {ts:TS} (ht:okT ts) {e:EH} (he:e.ok) {r:AV} {c:Unit→Option R} {y:R} (h:jal ih T M o ts e r c=some y) :
  c ()=some y∧∀ Q:AV→Heap→Prop,Q r e.abs→opW P T ⟨ts.flatten,e.abs⟩ o Q:=by
 unfold jal at h
 obtain ⟨r',h1,h2⟩:=va7 (P:=P) ih T M hM ht he h
 split at h1
 ·rename_i hb
  rw [yG _ _ _ hb] at h2
  exact ⟨h1,h2⟩
 ·cases h1
theorem jaE (hM:yr P M) {mk:Nat} {e:EH} (he:e.ok) {c:Unit→Option R} {y:R}:∀ (l:List Sil),(∀ s∈l,okT s.ts)→zM ih T M mk e c l=some y →
  c ()=some y∧∀ s∈l,Nat.testBit mk s.j=false→∀ Q:AV→Heap→Prop,Q s.r e.abs→opW P T ⟨s.ts.flatten,e.abs⟩ s.o Q
 | [],_,h=>⟨h,fun s hs=>by cases hs⟩
 | s :: l,hl,h=>by
  unfold zM at h
  split at h
  ·rename_i hb
   obtain ⟨h1,h2⟩:=jaE hM he l (fun s hs=>hl s (by simp [hs])) h
   refine ⟨h1,fun s' hs' hb' => ?_⟩
   rcases List.mem_cons.1 hs' with rfl | hs'
   ·rw [hb] at hb';cases hb'
   ·exact h2 s' hs' hb'
  ·obtain ⟨h0,h3⟩:=ya5 (P:=P) ih T M hM (hl s (by simp)) he h
   obtain ⟨h1,h2⟩:=jaE hM he l (fun s hs=>hl s (by simp [hs])) h0
   refine ⟨h1,fun s' hs' hb' => ?_⟩
   rcases List.mem_cons.1 hs' with rfl | hs'
   ·exact h3
   ·exact h2 s' hs' hb'
theorem vaE (hM:yr P M) {mk:Nat} {o:Oper} {ts:TS} (ht:okT ts) {r:AV} {c:Unit→Option R} {y:R}:∀ (l:List (Nat × EH)),(∀ p∈l,p.2.ok)→zW ih T M mk o ts r c l=some y →
  c ()=some y∧∀ p∈l,Nat.testBit mk p.1=false→∀ Q:AV→Heap→Prop,Q r p.2.abs→opW P T ⟨ts.flatten,p.2.abs⟩ o Q
 | [],_,h=>⟨h,fun s hs=>by cases hs⟩
 | s :: l,hl,h=>by
  unfold zW at h
  split at h
  ·rename_i hb
   obtain ⟨h1,h2⟩:=vaE hM ht l (fun s hs=>hl s (by simp [hs])) h
   refine ⟨h1,fun s' hs' hb' => ?_⟩
   rcases List.mem_cons.1 hs' with rfl | hs'
   ·rw [hb] at hb';cases hb'
   ·exact h2 s' hs' hb'
  ·obtain ⟨h0,h3⟩:=ya5 (P:=P) ih T M hM ht (hl s (by simp)) h
   obtain ⟨h1,h2⟩:=vaE hM ht l (fun s hs=>hl s (by simp [hs])) h0
   refine ⟨h1,fun s' hs' hb' => ?_⟩
   rcases List.mem_cons.1 hs' with rfl | hs'
   ·exact h3
   ·exact h2 s' hs' hb'
def upd {α:Type} (f:Nat→α) (k:Nat) (x:α):Nat→α:=fun i=>if i=k then x else f i
omit [Gl] [Bare] in
theorem zh {α:Type} (f:Nat→α) (k:Nat) (x:α):upd f k x k=x:=if_pos rfl
omit [Gl] [Bare] in
theorem xu {α:Type} (f:Nat→α) {k i:Nat} (x:α) (h:i≠k):upd f k x i=f i:=if_neg h
omit [Gl] [Bare] in
theorem qai {ops:Array Oper} {V V':Nat→AV} {A0:List AV}:∀ (i:Nat),(∀ j,j < i→V j=V' j)→XT ops V A0 i=XT ops V' A0 i
 | 0,_=>rfl
 | i + 1,h=>by
  show yi (XT ops V A0 i) (jq ops i) (V i)=yi (XT ops V' A0 i) (jq ops i) (V' i)
  rw [qai i fun j hj=>h j (by omega),h i (by omega)]
def xcj (k:Nat) (isW:Nat→Bool):List (Nat × EH)→Prop
 | []=>True
 | p :: _=>∀ w,w < k→isW w=true→w≤p.1
structure Pre (P:Program) (T:Tab) (ops:Array Oper) (A0:List AV) (k:Nat) (V:Nat→AV) (isW:Nat→Bool) (H:Nat→Heap) (past:List (Nat × EH)) (sil:List Sil):Prop where
 total:∀ i j,i < j→j < k→isW i=true→isW j=true→Bef ops i j
 same:∀ i,i < k→isW i=false→H (i + 1)=H i
 ok:∀ i o,i < k→ops[i]? = some o →
  (yg ops (XT ops V A0 i) o=some false∧V i=.tup []∧isW i=false) ∨
  (yg ops (XT ops V A0 i) o=some true∧isW i=true∧∀ K:AV→Heap→Prop,K (V i) (H (i + 1))→opW P T ⟨XT ops V A0 i,H i⟩ o K) ∨
  (yg ops (XT ops V A0 i) o=some true∧isW i=false∧(∃ s∈sil,s.j=i∧s.o=o∧s.ts.flatten=XT ops V A0 i∧s.r=V i) ∧
   ∀ p,p≤k→(∀ w,isW w=true→w < p→¬ Bef ops i w)→(∀ w,isW w=true→w < k→p≤w→¬ Bef ops w i)→∀ K:AV→Heap→Prop,K (V i) (H p)→opW P T ⟨XT ops V A0 i,H p⟩ o K)
 sl:∀ s∈sil,okT s.ts∧s.j < k
 pst:∀ p∈past,p.2.ok∧p.2.abs=H p.1∧isW p.1=true∧p.1 < k
 all:∀ w,w < k→isW w=true→∃ p∈past,p.1=w
 head:xcj k isW past
omit [Gl] [Bare] in
theorem xbp (isW:Nat→Bool) (p k:Nat):(∀ w,p≤w→w < k→isW w=false)∨∃ w,p≤w∧w < k∧isW w=true∧∀ v,p≤v→v < w→isW v=false:=by
 induction k with
 | zero=>exact .inl fun w _ h=>by omega
 | succ k ih =>
  rcases ih with ih | ⟨w,h1,h2,h3,h4⟩
  ·rcases Nat.lt_or_ge k p with hk | hk
   ·exact .inl fun w h1 h2=>by omega
   ·cases hw:isW k with
    | true=>exact .inr ⟨k,hk,by omega,hw,ih⟩
    | false =>
     refine .inl fun w h1 h2 => ?_
     rcases Nat.lt_or_ge w k with h | h
     ·exact ih w h1 h
     ·obtain rfl:w=k:=by omega
      exact hw
  ·exact .inr ⟨w,h1,by omega,h3,h4⟩
omit [Bare] in
theorem Pre.range {ops:Array Oper} {A0:List AV} {k:Nat} {V:Nat→AV} {isW:Nat→Bool} {H:Nat→Heap} {past:List (Nat × EH)} {sil:List Sil} (pr:Pre P T ops A0 k V isW H past sil) {a:Nat}:∀ b,a≤b→b≤k→(∀ w,a≤w→w < b→isW w=false)→H b=H a
 | 0,h,_,_=>by obtain rfl:a=0:=by omega
               rfl
 | b + 1,h,hb,hw=>by
  by_cases hab:a=b + 1
  ·rw [hab]
  ·rw [pr.same b (by omega) (hw b (by omega) (by omega))]
   exact pr.range b (by omega) (by omega) fun w h1 h2=>hw w h1 (by omega)
theorem qbr {lt:List Nat} (hM:yr P M) (hX:jv P) (hih:ih.OK P) {ops:Array Oper} {A0:List AV} {K:gb→TS→EH→Option R} {y:R} (hback:∀ j i,Bef ops j i→j < i) :
  ∀ (l:List Oper) (k:Nat) (past:List (Nat × EH)) (sil:List Sil) (ts:TS) (e:EH) (V:Nat→AV) (isW:Nat→Bool) (H:Nat→Heap),
   ops.toList.drop k=l→k≤ops.size→Pre P T ops A0 k V isW H past sil→e.ok→okT ts→ts.flatten=XT ops V A0 k→e.abs=H k→wv ih T M ops (qj ops) lt K l k past sil ts e=some y →
   ∃ (V':Nat→AV) (isW':Nat→Bool) (H':Nat→Heap) (past':List (Nat × EH)) (sil':List Sil) (ts':TS) (e':EH),Pre P T ops A0 ops.size V' isW' H' past' sil'∧H' 0=H 0∧e'.ok∧okT ts' ∧
    ts'.flatten=XT ops V' A0 ops.size∧e'.abs=H' ops.size∧K .normal ts' e'=some y
 | [],k,past,sil,ts,e,V,isW,H,hk,hkn,pr,he,ht,hX1,hH,h=>by
  have:k=ops.size:=by
   have:=List.drop_eq_nil_iff.1 hk
   simp at this;omega
  subst this
  exact ⟨V,isW,H,past,sil,ts,e,pr,rfl,he,ht,hX1,hH,h⟩
 | o :: rest,k,past,sil,ts,e,V,isW,H,hk,hkn,pr,he,ht,hX1,hH,h=>by
  have hlt:k < ops.toList.length:=by
   rcases Nat.lt_or_ge k ops.toList.length with h | h
   ·exact h
   ·rw [List.drop_eq_nil_of_le h] at hk;cases hk
  rw [List.drop_eq_getElem_cons hlt] at hk
  injection hk with hk1 hk2
  have ho:ops[k]? = some o:=by
   rw [← hk1,Array.getElem_toList]
   exact Array.getElem?_eq_getElem (by simpa using hlt)
  have hks:k < ops.size:=by simpa using hlt
  have hmask:∀ j,Nat.testBit ((qj ops).getD k 0) j=true→Bef ops j k:=fun j hj=>wad k j hj
  have hdo:jq ops k=o.dst:=by simp [jq,ho]
  have nextX:∀ (r:AV) (ts':TS),ts'.flatten=yi ts.flatten o.dst r→ts'.flatten=XT ops (upd V k r) A0 (k + 1):=fun r ts' hfl=>by
   rw [hfl,hX1]
   show _=yi (XT ops (upd V k r) A0 k) (jq ops k) (upd V k r k)
   rw [zh,hdo,qai k fun j hj=>(xu V r (by omega:j≠k)).symm]
  have oldX:∀ (r:AV) (i:Nat),i≤k→XT ops (upd V k r) A0 i=XT ops V A0 i:=fun r i hi=>qai i fun j hj=>xu V r (by omega)
  have quiet:∀ (r:AV) (sil':List Sil),(∀ s∈sil,s∈sil')→(∀ s∈sil',okT s.ts∧s.j < k + 1) →
    ((yg ops (XT ops V A0 k) o=some false∧r=.tup []) ∨
     (yg ops (XT ops V A0 k) o=some true∧(∃ s∈sil',s.j=k∧s.o=o∧s.ts.flatten=XT ops V A0 k∧s.r=r) ∧
      ∀ p,p≤k→(∀ w,isW w=true→w < k→p≤w→¬ Bef ops w k)→∀ K:AV→Heap→Prop,K r (H p)→opW P T ⟨XT ops V A0 k,H p⟩ o K)) →
    Pre P T ops A0 (k + 1) (upd V k r) (upd isW k false) (upd H (k + 1) (H k)) past sil':=fun r sil' hsub hsil hcase=>by
   have wold:∀ w,w < k→upd isW k false w=isW w:=fun w hw=>xu isW false (by omega)
   have hold:∀ p,p≤k→upd H (k + 1) (H k) p=H p:=fun p hp=>xu H (H k) (by omega)
   refine ⟨fun i j hij hj h1 h2 => ?_,fun i hi hw => ?_,fun i o' hi hoi => ?_,hsil,fun p hp => ?_,fun w hw hww => ?_,?_⟩
   ·have hjk:j < k:=by
     rcases Nat.lt_or_ge j k with h | h
     ·exact h
     ·obtain rfl:j=k:=by omega
      rw [zh] at h2;cases h2
    rw [wold i (by omega)] at h1;rw [wold j hjk] at h2
    exact pr.total i j hij hjk h1 h2
   ·rcases Nat.lt_or_ge i k with h | h
    ·rw [hold (i + 1) (by omega),hold i (by omega)]
     rw [wold i h] at hw
     exact pr.same i h hw
    ·obtain rfl:i=k:=by omega
     rw [zh,hold i (Nat.le_refl _)]
   ·rcases Nat.lt_or_ge i k with h | h
    ·rw [oldX r i (by omega),xu V r (by omega:i≠k),wold i h]
     rcases pr.ok i o' h hoi with g | ⟨g1,g2,g3⟩ | ⟨g1,g2,⟨s,s1,s2⟩,g4⟩
     ·exact .inl g
     ·refine .inr (.inl ⟨g1,g2,?_⟩)
      rw [hold (i + 1) (by omega),hold i (by omega)]
      exact g3
     ·refine .inr (.inr ⟨g1,g2,⟨s,hsub s s1,s2⟩,fun p hp c1 c2 => ?_⟩)
      have c1':∀ w,isW w=true→w < p→w < k→¬ Bef ops i w:=fun w hw hwp hwk=>c1 w (by rw [wold w hwk];exact hw) hwp
      have c2':∀ w,isW w=true→w < k→p≤w→¬ Bef ops w i:=fun w hw hwk hpw=>c2 w (by rw [wold w hwk];exact hw) (by omega) hpw
      rcases Nat.lt_or_ge p (k + 1) with hpk | hpk
      ·rw [hold p (by omega)]
       exact g4 p (by omega) (fun w hw hwp=>c1' w hw hwp (by omega)) c2'
      ·obtain rfl:p=k + 1:=by omega
       rw [zh]
       exact g4 k (Nat.le_refl _) (fun w hw hwp=>c1' w hw (by omega) hwp) (fun w hw hwk hpw=>by omega)
    ·obtain rfl:i=k:=by omega
     rw [ho] at hoi;injection hoi with hoi;subst hoi
     rw [oldX r i (Nat.le_refl _),zh,zh]
     rcases hcase with ⟨g1,g2⟩ | ⟨g1,g2,g3⟩
     ·exact .inl ⟨g1,g2,rfl⟩
     ·refine .inr (.inr ⟨g1,rfl,g2,fun p hp c1 c2 => ?_⟩)
      have c2':∀ w,isW w=true→w < i→p≤w→¬ Bef ops w i:=fun w hw hwk hpw=>c2 w (by rw [wold w hwk];exact hw) (by omega) hpw
      rcases Nat.lt_or_ge p (i + 1) with hpk | hpk
      ·rw [hold p (by omega)]
       exact g3 p (by omega) c2'
      ·obtain rfl:p=i + 1:=by omega
       rw [zh]
       exact g3 i (Nat.le_refl _) fun w hw hwk hpw=>by omega
   ·obtain ⟨p1,p2,p3,p4⟩:=pr.pst p hp
    exact ⟨p1,by rw [hold p.1 (by omega)];exact p2,by rw [wold p.1 p4];exact p3,by omega⟩
   ·have hwk:w < k:=by
     rcases Nat.lt_or_ge w k with h | h
     ·exact h
     ·obtain rfl:w=k:=by omega
      rw [zh] at hww;cases hww
    rw [wold w hwk] at hww
    exact pr.all w hwk hww
   ·have hh:=pr.head
    cases past with
    | nil=>trivial
    | cons p past =>
     intro w hw hww
     have hwk:w < k:=by
      rcases Nat.lt_or_ge w k with h | h
      ·exact h
      ·obtain rfl:w=k:=by omega
       rw [zh] at hww;cases hww
     rw [wold w hwk] at hww
     exact hh w hwk hww
  have go:∀ (V':Nat→AV) (isW':Nat→Bool) (H':Nat→Heap) (past':List (Nat × EH)) (sil':List Sil) (ts':TS) (e':EH),Pre P T ops A0 (k + 1) V' isW' H' past' sil'→H' 0=H 0→e'.ok→okT ts'→ts'.flatten=XT ops V' A0 (k + 1)→e'.abs=H' (k + 1) →
    wv ih T M ops (qj ops) lt K rest (k + 1) past' sil' ts' e'=some y →
    ∃ (V':Nat→AV) (isW':Nat→Bool) (H':Nat→Heap) (past':List (Nat × EH)) (sil':List Sil) (ts':TS) (e':EH),Pre P T ops A0 ops.size V' isW' H' past' sil'∧H' 0=H 0∧e'.ok∧okT ts' ∧
    ts'.flatten=XT ops V' A0 ops.size∧e'.abs=H' ops.size∧K .normal ts' e'=some y:=fun V' isW' H' past' sil' ts' e' q1 q0 q2 q3 q4 q5 q6=>by
   obtain ⟨a1,a2,a3,a4,a5,a6,a7,b1,b2,b3⟩:=qbr hM hX hih hback rest (k + 1) past' sil' ts' e' V' isW' H' hk2 (by omega) q1 q2 q3 q4 q5 q6
   exact ⟨a1,a2,a3,a4,a5,a6,a7,b1,b2.trans q0,b3⟩
  unfold wv at h
  rw [wbm ht] at h
  split at h
  ·cases h
  ·
   rename_i hg
   rw [hX1] at hg
   obtain ⟨ts1,ht1,hfl,h⟩:=jab ht h
   exact go (upd V k (.tup [])) (upd isW k false) (upd H (k + 1) (H k)) past sil ts1 e (quiet _ sil (fun s hs=>hs) (fun s hs=>by obtain ⟨a,c⟩:=pr.sl s hs;exact ⟨a,by omega⟩) (.inl ⟨hg,rfl⟩))
    (xu H _ (by omega)) he ht1 (nextX _ ts1 hfl) (by rw [zh];exact hH) h
  ·rename_i hg
   rw [hX1] at hg
   split at h
   ·
    rename_i hw
    split at h
    ·cases h
    ·rename_i hhead
     obtain ⟨r,e1,g1,g2,g3⟩:=ubc (P:=P) ih T hX hih ht he h
     replace g2:zM ih T M ((qj ops).getD k 0) e1 (fun _=>zC ts o.dst r fun ts'=>wv ih T M ops (qj ops) lt K rest (k + 1) ((k,e) :: past) sil ts' e1) sil=some y:=g2
     obtain ⟨g4,g5⟩:=jaE (P:=P) ih T M hM g1 sil (fun s hs=>(pr.sl s hs).1) g2
     obtain ⟨ts1,ht1,hfl,h⟩:=jab ht g4
     have wold:∀ w,w < k→upd isW k true w=isW w:=fun w hw=>xu isW true (by omega)
     have hold:∀ p,p≤k→upd H (k + 1) e1.abs p=H p:=fun p hp=>xu H e1.abs (by omega)
     have tot:∀ i,i < k→isW i=true→Bef ops i k:=fun i hi hiw=>by
      cases hpast:past with
      | nil =>
       obtain ⟨p,hp,_⟩:=pr.all i hi hiw
       rw [hpast] at hp;cases hp
      | cons p past' =>
       have hb:Bef ops p.1 k:=hmask p.1 (by rw [hpast] at hhead;exact hhead)
       have hle:i≤p.1:=by have:=pr.head;rw [hpast] at this;exact this i hi hiw
       obtain ⟨_,_,p3,p4⟩:=pr.pst p (by rw [hpast];exact List.mem_cons_self)
       rcases Nat.lt_or_ge i p.1 with h | h
       ·exact .trans i p.1 k (pr.total i p.1 h p4 hiw p3) hb
       ·obtain rfl:i=p.1:=by omega
        exact hb
     refine go (upd V k r) (upd isW k true) (upd H (k + 1) e1.abs) ((k,e) :: past) sil ts1 e1 ?_ (xu H _ (by omega)) g1 ht1 (nextX r ts1 hfl) (by rw [zh]) h
     refine ⟨fun i j hij hj h1 h2 => ?_,fun i hi hw' => ?_,fun i o' hi hoi => ?_,fun s hs => ?_,fun p hp => ?_,fun w hw' hww => ?_,fun w hw' hww=>by show w≤k;omega⟩
     ·rcases Nat.lt_or_ge j k with hjk | hjk
      ·rw [wold i (by omega)] at h1;rw [wold j hjk] at h2
       exact pr.total i j hij hjk h1 h2
      ·obtain rfl:j=k:=by omega
       rw [wold i hij] at h1
       exact tot i hij h1
     ·have hik:i < k:=by
       rcases Nat.lt_or_ge i k with h | h
       ·exact h
       ·obtain rfl:i=k:=by omega
        rw [zh] at hw';cases hw'
      rw [hold (i + 1) (by omega),hold i (by omega)]
      rw [wold i hik] at hw'
      exact pr.same i hik hw'
     ·rcases Nat.lt_or_ge i k with hik | hik
      ·rw [oldX r i (by omega),xu V r (by omega:i≠k),wold i hik]
       rcases pr.ok i o' hik hoi with g | ⟨q1,q2,q3⟩ | ⟨q1,q2,⟨s,s1,s2,s3,s4,s5⟩,q4⟩
       ·exact .inl g
       ·refine .inr (.inl ⟨q1,q2,?_⟩)
        rw [hold (i + 1) (by omega),hold i (by omega)]
        exact q3
       ·refine .inr (.inr ⟨q1,q2,⟨s,s1,s2,s3,s4,s5⟩,fun p hp c1 c2 => ?_⟩)
        rcases Nat.lt_or_ge p (k + 1) with hpk | hpk
        ·rw [hold p (by omega)]
         exact q4 p (by omega) (fun w hw' hwp=>c1 w (by rw [wold w (by omega)];exact hw') hwp) (fun w hw' hwk hpw=>c2 w (by rw [wold w hwk];exact hw') (by omega) hpw)
        ·obtain rfl:p=k + 1:=by omega
         rw [zh]
         have hnb:Nat.testBit ((qj ops).getD k 0) s.j=false:=by
          cases hb:Nat.testBit ((qj ops).getD k 0) s.j with
          | false=>rfl
          | true=>exact absurd (s2 ▸ hmask s.j hb) (c1 k (zh _ _ _) (by omega))
         have:=g5 s s1 hnb
         rw [s3,s4,s5] at this
         exact this
      ·obtain rfl:i=k:=by omega
       rw [ho] at hoi;injection hoi with hoi;subst hoi
       rw [oldX r i (Nat.le_refl _),zh,zh,zh,hold i (Nat.le_refl _)]
       refine .inr (.inl ⟨hg,rfl,fun K' hk' => ?_⟩)
       have:=g3 K' hk'
       rw [hX1,hH] at this
       exact this
     ·obtain ⟨a,c⟩:=pr.sl s hs
      exact ⟨a,by omega⟩
     ·rcases List.mem_cons.1 hp with rfl | hp
      ·exact ⟨he,by rw [hold k (Nat.le_refl _)];exact hH,zh _ _ _,by show k < k + 1;omega⟩
      ·obtain ⟨p1,p2,p3,p4⟩:=pr.pst p hp
       exact ⟨p1,by rw [hold p.1 (by omega)];exact p2,by rw [wold p.1 p4];exact p3,by omega⟩
     ·rcases Nat.lt_or_ge w k with hwk | hwk
      ·rw [wold w hwk] at hww
       obtain ⟨p,hp,e⟩:=pr.all w hwk hww
       exact ⟨p,List.mem_cons_of_mem _ hp,e⟩
      ·exact ⟨(k,e),List.mem_cons_self,by show k=w;omega⟩
   ·
    rename_i hw
    obtain ⟨r,g2,g3⟩:=va7 (P:=P) ih T M hM ht he h
    replace g2:zW ih T M ((qj ops).getD k 0) o ts r (fun _=>zC ts o.dst r fun ts'=>wv ih T M ops (qj ops) lt K rest (k + 1) past (⟨k,o,ts,r⟩ :: sil) ts' e) past=some y:=g2
    obtain ⟨g4,g5⟩:=vaE (P:=P) ih T M hM ht past (fun p hp=>(pr.pst p hp).1) g2
    obtain ⟨ts1,ht1,hfl,h⟩:=jab ht g4
    refine go (upd V k r) (upd isW k false) (upd H (k + 1) (H k)) past (⟨k,o,ts,r⟩ :: sil) ts1 e (quiet r _ (fun s hs=>List.mem_cons_of_mem _ hs) (fun s hs => ?_) (.inr ⟨hg,⟨_,List.mem_cons_self,rfl,rfl,hX1,rfl⟩,fun p hp c2 => ?_⟩))
     (xu H _ (by omega)) he ht1 (nextX r ts1 hfl) (by rw [zh];exact hH) h
    ·rcases List.mem_cons.1 hs with rfl | hs
     ·exact ⟨ht,by show k < k + 1;omega⟩
     ·obtain ⟨a,c⟩:=pr.sl s hs
      exact ⟨a,by omega⟩
    ·rcases xbp isW p k with hf | ⟨w,w1,w2,w3,w4⟩
     ·have hHk:=pr.range T k hp (Nat.le_refl _) hf
      rw [← hHk,← hH,← hX1]
      exact g3
     ·have hHw:=pr.range T w w1 (by omega) w4
      obtain ⟨q,hq,rfl⟩:=pr.all w w2 w3
      obtain ⟨_,q2,_,_⟩:=pr.pst q hq
      have hnb:Nat.testBit ((qj ops).getD k 0) q.1=false:=by
       cases hb:Nat.testBit ((qj ops).getD k 0) q.1 with
       | false=>rfl
       | true=>exact absurd (hmask q.1 hb) (c2 q.1 w3 w2 w1)
      have:=g5 q hq hnb
      rw [q2,hHw,hX1] at this
      exact this
end run
end
end Go.Abs

namespace Go.Abs
noncomputable section
variable [Gl]
section calm
variable {R:Type} (T:Tab)
def zt (e:EH) (f:(AV→EH→Option R)→Option R):Prop:=∀ K K':AV→EH→Option R,(∀ r e',e'.loops=e.loops→K r e'=K' r e')→f K=f K'
omit [Gl] in
theorem uE {e:EH} {x:Blk} {K K':EH→Option R} (h:∀ e',e'.loops=e.loops→K e'=K' e'):e.push x K=e.push x K':=by
 unfold EH.push
 rw [qd,qd]
 exact congrArg (uab (some x) e.rb) (funext fun rb=>h _ rfl)
omit [Gl] in
theorem gam {e:EH} {b:Nat} {x:Blk} {K K':EH→Option R} (h:∀ e',e'.loops=e.loops→K e'=K' e'):e.put b x K=e.put b x K':=by
 unfold EH.put
 split
 ·rw [qd,qd,yQ,yQ];exact h _ rfl
 ·rfl
omit [Gl] in
theorem zaM {e:EH} {b:Nat} {K K':EH→Option R} (h:∀ e',e'.loops=e.loops→K e'=K' e'):e.kill b K=e.kill b K':=by
 unfold EH.kill
 split
 ·rw [qd,qd,yQ,yQ];exact h _ rfl
 ·rfl
theorem vch (e:EH) (t:TypeId):zt (R:=R) e (wai T e t):=fun K K' h=>by
 unfold wai
 split
 ·rfl
 ·split
  ·rw [qe,qe];exact uE fun e' he=>h _ _ he
  ·rfl
theorem vce (e:EH) (t:TypeId) (x:AV):zt (R:=R) e (uah T e t x):=fun K K' h=>by
 unfold uah
 repeat' split
 all_goals first
  | rfl
  | (rw [qe,qe];exact uE fun e' he=>h _ _ he)
  | exact uE fun e' he=>h _ _ he
theorem jcd (e:EH) (t:TypeId) (n:Nat) (ps:List (Nat × AV)):zt (R:=R) e (yah T e t n ps):=fun K K' h=>by
 unfold yah
 repeat' split
 all_goals first
  | rfl
  | (rw [jS,jS];exact uE fun e' he=>h _ _ he)
theorem ybY (e:EH) (t:TypeId) (l c:AV):zt (R:=R) e (zae T e t l c):=fun K K' h=>by
 unfold zae
 repeat' split
 all_goals first
  | rfl
  | (rw [qe,qe];exact uE fun e' he=>by simp only [qd];exact h _ _ he)
theorem gbE (e:EH) (t:TypeId) (x v:AV):zt (R:=R) e (vaa T e t x v):=fun K K' h=>by
 unfold vaa
 repeat' split
 all_goals first
  | rfl
  | (unfold yaB;rw [qe,qe,gaa,gaa];exact gam fun e' he=>h _ _ he)
theorem wbf (e:EH) (t:TypeId) (x ix v:AV):zt (R:=R) e (uad T e t x ix v):=fun K K' h=>by
 unfold uad
 refine congrArg (qad T e t x ix) ?_
 funext _ k n b es
 simp only [qe]
 split
 ·exact gam fun e' he=>h _ _ he
 ·rfl
theorem qca (e:EH) (t:TypeId) (d x:AV):zt (R:=R) e (vag T e t d x):=fun K K' h=>by
 unfold vag
 repeat' split
 all_goals first
  | rfl
  | (rw [qd,qd]
     repeat' split
     all_goals first
      | rfl
      | exact h _ _ rfl
      | (rw [qe,qe];exact gam fun e' he=>h _ _ he))
theorem vcg (e:EH) (t:TypeId) (s x:AV):zt (R:=R) e (qO T e t s x):=fun K K' h=>by
 have hs:∀ r,K r e=K' r e:=fun r=>h r e rfl
 unfold qO xaW
 simp only [qe,qd]
 repeat' split
 all_goals first
  | rfl
  | exact hs _
  | exact uE fun e' he=>h _ _ he
  | exact gam fun e' he=>h _ _ he
theorem jbX (r:AV) (e:EH):zt (R:=R) e (vM r e):=fun K K' h=>by
 have hs:∀ r,K r e=K' r e:=fun r=>h r e rfl
 unfold vM
 repeat' split
 all_goals first
  | exact hs _
  | exact zaM fun e' he=>uE fun e'' he'=>h _ _ (he'.trans he)
theorem zcb (e:EH) (s d:TypeId) (x:AV):zt (R:=R) e (uag T e s d x):=fun K K' h=>by
 have hs:∀ r,K r e=K' r e:=fun r=>h r e rfl
 unfold uag
 repeat' split
 all_goals first
  | rfl
  | (unfold qaS
     repeat' split
     all_goals first
      | rfl
      | (simp only [qe,jS];exact hs _)
      | exact hs _)
  | (unfold jaS
     repeat' split
     all_goals first
      | rfl
      | (simp only [qe,jS];exact hs _)
      | exact hs _)
  | (unfold y6
     repeat' split
     all_goals first
      | rfl
      | (simp only [hs])
      | exact hs _)
variable [Bare] (ih:IH R) (M:FuncId→Option (List AV→Option AV))
def gd:IH R where
 code:=fun _ _ _ _ _=>none
 loop:=fun _ _ _ _ _=>none
 scope:=fun _ _ _ _ _ _=>none
 call:=fun _ _ _ _=>none
theorem gcc (P:Program):(gd:IH R).OK P :=
 ⟨fun _ _ _ _ _ _ _ _ h=>(by cases h),fun _ _ _ _ _ _ _ _ h=>(by cases h),fun _ _ _ _ _ _ _ _ _ h=>(by cases h),fun _ _ _ _ _ _ h=>(by cases h)⟩
theorem ycd (e:EH) (f:AV) (args:List AV):zt (R:=R) e (gag gd f args e):=fun K K' h=>by
 have hs:∀ r,K r e=K' r e:=fun r=>h r e rfl
 unfold gag
 split
 ·rw [qe,qe]
  split
  ·rfl
  ·split
   ·rw [xj,xj];exact hs _
   ·rfl
 ·unfold vaj
  split
  ·rfl
  ·split
   ·rfl
   ·rfl
 ·rfl
omit [Bare] in
theorem zbB (s:AV) (e:EH) {K K':AV→EH→Option R} (h:∀ r e',e'.loops=e.loops→K r e'=K' r e'):uG s e K=uG s e K':=by
 unfold uG
 repeat' split
 all_goals first
  | exact h _ _ rfl
  | (rw [qe,qe];exact zaM fun e' he=>uE fun e'' he'=>h _ _ (he'.trans he))
theorem vb9 (e:EH) (t:TypeId) (b i:Nat) (x:AV):zt (R:=R) e (xag T e t b i x):=fun K K' h=>by
 have hs:∀ r,K r e=K' r e:=fun r=>h r e rfl
 unfold xag
 simp only [qe,qd]
 repeat' split
 all_goals first
  | rfl
  | exact hs _
  | exact zaM fun e' he=>uE fun e'' he'=>h _ _ (he'.trans he)
theorem jcg (ts:TS) (e:EH) (t u:TypeId) (s x:Operand):zt (R:=R) e (jaw T ts e t u s x):=fun K K' h=>by
 have e1:∀ sv xv,uG sv e (fun sv e=>qO T e t sv xv (fun r e=>vM r e K))=uG sv e (fun sv e=>qO T e t sv xv (fun r e=>vM r e K')):=fun sv xv =>
  zbB sv e fun sv' e2 h2=>vcg T e2 t sv' xv _ _ fun r e' he=>jbX r e' K K' fun r' e'' he'=>h r' e'' ((he'.trans he).trans h2)
 unfold jaw
 split
 ·rfl
 ·split
  ·rfl
  ·simp only [e1,fun b i xv=>vb9 T e t b i xv K K' h]
theorem gbV (ts:TS) (e:EH) (o:Oper):zt (R:=R) e (opE gd T ts e o):=fun K K' h=>by
 have hs:∀ r,K r e=K' r e:=fun r=>h r e rfl
 obtain ⟨dst,op,type,pos,after,guard⟩:=o
 unfold opE
 cases op
 case move x=>show vq x gd T ts e K=vq x gd T ts e K';unfold vq;simp only [hs]
 case assign x=>show vq x gd T ts e K=vq x gd T ts e K';unfold vq;simp only [hs]
 case pick c a b=>show zI c a b gd T ts e K=zI c a b gd T ts e K';unfold zI;simp only [hs]
 case alloc t=>exact vch T e t K K' h
 case box t x=>show yS t x gd T ts e K=yS t x gd T ts e K';unfold yS;simp only [vce T e t _ K K' h]
 case build t ps=>show xJ t ps gd T ts e K=xJ t ps gd T ts e K';unfold xJ;simp only [hs]
 case buildSlice t n ps=>show zS t n ps gd T ts e K=zS t n ps gd T ts e K';unfold zS;simp only [jcd T e t n _ K K' h]
 case load t a=>show vI t a gd T ts e K=vI t a gd T ts e K';unfold vI;simp only [hs]
 case store t a x=>show jR t a x gd T ts e K=jR t a x gd T ts e K';unfold jR;simp only [gbE T e t _ _ K K' h]
 case nilCheck x=>show yI x gd T ts e K=yI x gd T ts e K';unfold yI;simp only [hs]
 case binOp op t ox oy u=>show wJ op t ox oy u gd T ts e K=wJ op t ox oy u gd T ts e K';unfold wJ;simp only [hs]
 case unOp op t x=>show hUn op t x gd T ts e K=hUn op t x gd T ts e K';unfold hUn;simp only [hs]
 case convert s d x=>show yJ s d x gd T ts e K=yJ s d x gd T ts e K';unfold yJ;simp only [zcb T e s d _ K K' h]
 case makeFunc f a c=>show xI f a c gd T ts e K=xI f a c gd T ts e K';unfold xI;simp only [hs]
 case makeMap t r =>
  show gR t r gd T ts e K=gR t r gd T ts e K'
  unfold gR
  split
  ·exact uE fun e' he=>h _ _ he
  ·rfl
 case makeSlice t l c=>show qR t l c gd T ts e K=qR t l c gd T ts e K';unfold qR;simp only [ybY T e t _ _ K K' h]
 case slice t x lo hi mx=>show gH t x lo hi mx gd T ts e K=gH t x lo hi mx gd T ts e K';unfold gH;simp only [hs]
 case fieldAddr t x f=>show qI t x f gd T ts e K=qI t x f gd T ts e K';unfold qI;simp only [hs]
 case field t x f=>show gI t x f gd T ts e K=gI t x f gd T ts e K';unfold gI;simp only [hs]
 case indexAddr t x i=>show uI t x i gd T ts e K=uI t x i gd T ts e K';unfold uI;simp only [hs]
 case index t x i=>show jI t x i gd T ts e K=jI t x i gd T ts e K';unfold jI;simp only [hs]
 case lookup t x i c=>show wI t x i c gd T ts e K=wI t x i c gd T ts e K';unfold wI;simp only [hs]
 case mapUpdate t m k x=>show xw t m k x gd T ts e K=xw t m k x gd T ts e K';unfold xw;simp only [wbf T e t _ _ _ K K' h]
 case insert t m k x=>show xw t m k x gd T ts e K=xw t m k x gd T ts e K';unfold xw;simp only [wbf T e t _ _ _ K K' h]
 case extract x i=>show zJ x i gd T ts e K=zJ x i gd T ts e K';unfold zJ;simp only [hs]
 case call c =>
  show uO gd T ts e c K=uO gd T ts e c K'
  unfold uO
  split
  ·simp only [ycd e _ _ K K' h]
  ·repeat' split
   all_goals first | rfl | simp only [hs]
  ·repeat' split
   all_goals first | rfl | exact jcg T ts e _ _ _ _ K K' h
  ·repeat' split
   all_goals first | rfl | simp only [qca T e _ _ _ K K' h]
  ·repeat' split
   all_goals first | rfl | (unfold uM;simp only [hs])
  ·repeat' split
   all_goals first | rfl | (unfold uM;simp only [hs])
  ·rfl
 all_goals rfl
def vbz (e:EH) (f:(gb→TS→EH→Option R)→Option R):Prop:=∀ K K':gb→TS→EH→Option R,(∀ x ts e',e'.loops=e.loops→K x ts e'=K' x ts e')→f K=f K'
theorem qbN (mk:Nat) (e:EH) {c c':Unit→Option R} (h:c ()=c' ()) (l:List Sil):zM ih T M mk e c l=zM ih T M mk e c' l:=by
 rw [show c=c' from funext fun _=>h]
theorem gbr (hc:∀ ts e o,zt (R:=R) e (opE ih T ts e o)) (ops:Array Oper) (ms lt:List Nat):∀ (l:List Oper) (k:Nat) (past:List (Nat × EH)) (sil:List Sil) (ts:TS) (e:EH),
  vbz e fun K=>wv ih T M ops ms lt K l k past sil ts e
 | [],k,past,sil,ts,e,K,K',h=>h _ _ _ rfl
 | o :: rest,k,past,sil,ts,e,K,K',h=>by
  have ih1:∀ past sil ts' e',e'.loops=e.loops→wv ih T M ops ms lt K rest (k + 1) past sil ts' e'=wv ih T M ops ms lt K' rest (k + 1) past sil ts' e':=fun past sil ts' e' he =>
   gbr hc ops ms lt rest (k + 1) past sil ts' e' K K' fun x t e'' he'=>h x t e'' (he'.trans he)
  show wv ih T M ops ms lt K (o :: rest) k past sil ts e=wv ih T M ops ms lt K' (o :: rest) k past sil ts e
  unfold wv
  split
  ·rfl
  ·simp only [ih1 _ _ _ e rfl]
  ·split
   ·split
    ·rfl
    ·refine hc ts e o _ _ fun r e' he => ?_
     refine qbN T ih M _ _ ?_ _
     simp only [ih1 _ _ _ e' he]
   ·simp only [ih1 _ _ _ e rfl]
end calm
end
end Go.Abs
