/-
  Steps to a law of this program: AbsSym, AbsLimb, AbsPerm.
  Conditions: none.
-/
import Derived.Test.YtpdnijifmebnbaaGreatDoorB14
import Derived.Test.YtpdnijifmebnbaaGreatDoorB12
import Derived.IntWalk
import Derived.Test.YtpdnijifmebnbaaGreatDoorB3
set_option linter.unusedVariables false
set_option linter.unusedSimpArgs false
set_option linter.unusedSectionVars false
namespace Go.Abs
noncomputable section
variable [Gl]
structure uaY [Bare] (P:Program) (g:FuncId) (args:List AV) (h:Heap) (K:AV→Heap→Prop):Prop where
 h:CallSem P g args h K∨∃ r,waY P g args r∧K r h
theorem qm [Bare] {P:Program} {g:FuncId} {args:List AV} {h:Heap} {K:AV→Heap→Prop} (hc:CallSem P g args h K):uaY P g args h K:=⟨.inl hc⟩
theorem wa [Bare] {P:Program} {g:FuncId} {args:List AV} {r:AV} {h:Heap} {K:AV→Heap→Prop} (hp:zb P g args r) (ha:∀ x∈args,Pure x) (hk:K r h):uaY P g args h K:=⟨.inl (uaT ha hp hk)⟩
structure zbA (P:Program) (l:Nat) (args:List AV) (h:Heap) (K:AV→Heap→Prop):Prop where
 h:uo P h (.yld l) args K
section stops
variable {α:Type}
def fN:Nat→(Nat→Prop)→Prop
 | 0,K=>K 0
 | p + 1,K=>fN p fun p=>K (p + 1)
omit [Gl] in
theorem ybq:∀ (n:Nat) (K:Nat→Prop),fN n K=K n
 | 0,_=>rfl
 | p + 1,K=>by rw [fN,ybq p]
def jaf:List α→(List α→Prop)→Prop
 | [],K=>K []
 | a :: r,K=>jaf r fun r'=>K (a :: r')
omit [Gl] in
theorem qaQ:∀ (l:List α) (K:List α→Prop),jaf l K=K l
 | [],_=>rfl
 | a :: r,K=>by rw [jaf,qaQ r]
def gaQ (h:Heap) (K:Heap→Prop):Prop:=jaf h.blks fun b=>jaf h.loops fun l=>K ⟨b,l⟩
omit [Gl] in
theorem vb8 (h:Heap) (K:Heap→Prop):gaQ h K=K h:=by
 unfold gaQ
 rw [qaQ,qaQ]
def ub8 (h:Heap) (K:Heap→Prop):Prop:=match h with | ⟨b,l⟩=>K ⟨b,l⟩
class FH where
 fh:Heap→(Heap→Prop)→Prop
 eq:∀ h K,fh h K=K h
 fn:Nat→(Nat→Prop)→Prop
 fneq:∀ n K,fn n K=K n
instance fhFull:FH:=⟨gaQ,vb8,fN,ybq⟩
abbrev gZ:FH:=⟨ub8,fun _ _=>rfl,fun n K=>K n,fun _ _=>rfl⟩
def qaf:List α→(List α→Prop)→Prop
 | [],K=>K []
 | a :: r,K=>qaf r fun r'=>K (a :: r')
omit [Gl] in
theorem y3:∀ (l:List α) (K:List α→Prop),qaf l K=K l
 | [],_=>rfl
 | a :: r,K=>by rw [qaf,y3 r]
def fHd [FH] (r:AV) (K:AV→Prop):Prop :=
 match r with
 | .junk=>K .junk
 | .bool b=>K (.bool b)
 | .int k n=>K (.int k n)
 | .str s=>K (.str s)
 | .nilp=>K .nilp
 | .nils=>K .nils
 | .nilf=>K .nilf
 | .nili=>K .nili
 | .nilm=>K .nilm
 | .agg cs=>K (.agg cs)
 | .tup cs=>K (.tup cs)
 | .vs es c=>K (.vs es c)
 | .vp row j=>K (.vp row j)
 | .ptr b i j=>FH.fn b fun b=>K (.ptr b i j)
 | .ms b i l c=>FH.fn b fun b=>K (.ms b i l c)
 | .fn f a c=>K (.fn f a c)
 | .yld l=>K (.yld l)
 | .ifc t x=>K (.ifc t x)
 | .mp b=>K (.mp b)
 | .gp g j=>K (.gp g j)
omit [Gl] in
theorem zaR [FH] (r:AV) (K:AV→Prop):fHd r K=K r:=by cases r <;> first | rfl | simp only [fHd,FH.fneq]
def yy [FH]:List AV→(List AV→Prop)→Prop
 | [],K=>K []
 | a :: r,K=>fHd a fun a=>yy r fun r'=>K (a :: r')
omit [Gl] in
theorem wO [FH]:∀ (l:List AV) (K:List AV→Prop),yy l K=K l
 | [],_=>rfl
 | a :: r,K=>by rw [yy,zaR,wO r]
def uS [FH] (r:AV) (K:AV→Prop):Prop:=fHd r fun r=>match r with
 | .agg cs=>yy cs fun cs=>K (.agg cs)
 | .tup cs=>yy cs fun cs=>K (.tup cs)
 | .fn f a c=>yy a fun a=>yy c fun c=>K (.fn f a c)
 | r=>K r
omit [Gl] in
theorem waf [FH] (r:AV) (K:AV→Prop):uS r K=K r:=by
 unfold uS
 rw [zaR]
 cases r <;> simp only [wO]
def zau:List AV→Nat→AV→(List AV→Prop)→Prop
 | [],_,_,K=>K []
 | y :: l,n,x,K=>match n with
  | 0=>K (x :: l)
  | p + 1=>zau l p x fun l'=>K (y :: l')
omit [Gl] in
theorem zbq:∀ (l:List AV) (n:Nat) (x:AV) (K:List AV→Prop),zau l n x K=K (l.set n x)
 | [],_,_,_=>rfl
 | y :: l,0,x,K=>rfl
 | y :: l,n + 1,x,K=>by
  show zau l n x (fun l'=>K (y :: l'))=_
  rw [zbq l n x];rfl
def j0 [FH] (ts:List AV) (d:Option Tmp) (x:AV) (K:List AV→Prop):Prop:=uS x fun x=>match d with
 | none=>K ts
 | some t=>zau ts t x K
omit [Gl] in
theorem uaf [FH] (ts:List AV) (d:Option Tmp) (x:AV) (K:List AV→Prop):j0 ts d x K=K (yi ts d x):=by
 unfold j0
 rw [waf]
 cases d with
 | none=>rfl
 | some t=>exact zbq ts t x K
structure vO (t:Bool) (A B:Prop):Prop where
 h:match t with | true=>A | false=>B
omit [Gl] in
theorem ybt {A B:Prop} (h:A):vO true A B:=⟨h⟩
omit [Gl] in
theorem xbt {A B:Prop} (h:B):vO false A B:=⟨h⟩
omit [Gl] in
theorem ua {t:Bool} {A B:Prop} (e:t=true) (h:A):vO t A B:=by subst e;exact ⟨h⟩
omit [Gl] in
theorem ya {t:Bool} {A B:Prop} (e:t=false) (h:B):vO t A B:=by subst e;exact ⟨h⟩
omit [Gl] in
theorem yf {p:Prop} [Decidable p] {A B:Prop} (h1:p→A) (h2:¬ p→B):vO (decide p) A B:=by
 by_cases hp:p
 ·rw [decide_eq_true hp];exact ⟨h1 hp⟩
 ·rw [decide_eq_false hp];exact ⟨h2 hp⟩
structure qD (k:IntKind) (v:Int) (K:Int→Prop):Prop where
 h:K (k.wrap v)
omit [Gl] in
theorem qax {k:IntKind} {v w:Int} {K:Int→Prop} (e:k.wrap v=w) (h:K w):qD k v K:=by subst e;exact ⟨h⟩
omit [Gl] in
theorem zi {k:IntKind} {v:Int} {K:Int→Prop} (d:Nat) (e:v=(d:Int)) (hk:k.wrap (d:Int)=(d:Int)) (h:K (d:Int)):qD k v K:=by subst e;exact ⟨by rw [hk];exact h⟩
structure zbs (k:IntKind) (a b:Int) (K:Int→Prop):Prop where
 h:b≠0∧K (k.wrap (a.tdiv b))
structure wa6 (a b:Int) (K:Int→Prop):Prop where
 h:b≠0∧K (a.tmod b)
omit [Gl] in
theorem yT {k:IntKind} {a b:Int} {K:Int→Prop} (n m:Nat) (ha:a=n) (hb:b=m) (hm:m≠0) (hk:k.wrap ((n / m:Nat):Int)=((n / m:Nat):Int)) (h:K ((n / m:Nat):Int)):zbs k a b K:=by
 subst ha hb
 refine ⟨by omega,?_⟩
 have e:(n:Int).tdiv (m:Int)=((n / m:Nat):Int):=by rw [Int.tdiv_eq_ediv_of_nonneg (by omega)];rfl
 rw [e,hk];exact h
omit [Gl] in
theorem un {a b:Int} {K:Int→Prop} (n m:Nat) (ha:a=n) (hb:b=m) (hm:m≠0) (h:K ((n % m:Nat):Int)):wa6 a b K:=by
 subst ha hb
 refine ⟨by omega,?_⟩
 have e:(n:Int).tmod (m:Int)=((n % m:Nat):Int):=by rw [Int.tmod_eq_emod_of_nonneg (by omega)];rfl
 rw [e];exact h
structure gaq (n:Nat) (K:Int→Prop):Prop where
 h:K n
omit [Gl] in
theorem qc {n m:Nat} {K:Int→Prop} (e:n=m) (h:K m):gaq n K:=by subst e;exact ⟨h⟩
structure qbk (es:List (List AV)) (sz:Nat) (i:Int) (K:AV→Prop):Prop where
 h:(0≤i∧i < es.length)∧∃ row,es[i.toNat]? = some row∧row.length=sz∧K (.vp row 0)
structure ybl (rs:List (List AV)) (s len sz:Nat) (i:Int) (K:Nat→Prop):Prop where
 h:(0≤i∧i < len)∧0 < sz∧(∃ row,rs[s + i.toNat]? = some row∧row.length=sz)∧K (s + i.toNat)
omit [Gl] in
theorem gg {rs:List (List AV)} {s len sz:Nat} {i:Int} {K:Nat→Prop} {row:List AV} (k:Nat) (hi:i=k) (hk:k < len) (hz:0 < sz) (hr:rs[s + k]? = some row) (hl:row.length=sz) (h:K (s + k)):ybl rs s len sz i K:=by
 subst hi
 exact ⟨⟨by omega,by omega⟩,hz,⟨row,hr,hl⟩,h⟩
structure vbJ (es:List (List AV)) (capo:Option Nat) (sz:Nat) (l u:Int) (K:AV→Prop):Prop where
 h:(0≤l∧l≤u∧u≤es.length)∧(∀ row∈es,row.length=sz)∧K (.vs ((es.take u.toNat).drop l.toNat) (capo.map (· - l.toNat)))
structure za3 (s:List UInt8) (l u:Int) (K:AV→Prop):Prop where
 h:(0≤l∧l≤u∧u≤s.length)∧K (.str ((s.take u.toNat).drop l.toNat))
omit [Gl] in
theorem ga2 {s t:List UInt8} {l u:Int} {K:AV→Prop} (hb:0≤l∧l≤u∧u≤s.length) (e:(s.take u.toNat).drop l.toNat=t) (h:K (.str t)):za3 s l u K:=⟨hb,e ▸ h⟩
structure zbl (s:List UInt8) (i:Int) (K:AV→Prop):Prop where
 h:0≤i∧∃ c,s[i.toNat]? = some c∧K (.int .u8 c.toNat)
omit [Gl] in
theorem vR {s:List UInt8} {i:Int} {K:AV→Prop} (k:Nat) (hi:i=k) (hk:k < s.length) (h:K (.int .u8 (s[k]).toNat)):zbl s i K:=by
 subst hi
 exact ⟨by omega,s[k],by simp [hk],h⟩
structure ldX (rs:List (List AV)) (i j:Nat) (ti:TI) (K:AV→Prop):Prop where
 h:∃ r,((rs[i]?).bind fun row=>gk ti row j)=some r∧K r
omit [Gl] in
theorem za {rs:List (List AV)} {i j:Nat} {ti:TI} {r:AV} {K:AV→Prop} (e:((rs[i]?).bind fun row=>gk ti row j)=some r) (h:K r):ldX rs i j ti K:=⟨r,e,h⟩
structure mkX (l c:Int) (ei:TI) (K:Nat→Nat→List (List AV)→Prop):Prop where
 h:(0≤l∧l≤c∧(ei.bytes:Int) * c≤140737488355328∧c≤140737488355328)∧0 < ei.size∧ei.zero.all okc=true∧K l.toNat c.toNat (List.replicate c.toNat ei.zero)
omit [Gl] in
theorem uC {l c:Int} {ei:TI} {n m:Nat} {rs:List (List AV)} {K:Nat→Nat→List (List AV)→Prop} (hl:l=n) (hc:c=m) (hb:n≤m∧ei.bytes * m≤140737488355328∧m≤140737488355328) (h0:(0 < ei.size∧ei.zero.all okc=true))
  (e:List.replicate m ei.zero=rs) (h:K n m rs):mkX l c ei K:=by
 subst hl hc e
 refine ⟨⟨by omega,by omega,?_,by omega⟩,h0.1,h0.2,by simpa using h⟩
 have h2:((ei.bytes * m:Nat):Int)≤140737488355328:=by have:=hb.2.1;omega
 rw [Int.natCast_mul] at h2
 exact h2
structure apX (h:Heap) (s:AV) (new:List (List AV)) (ei:TI) (K:AV→Heap→Prop):Prop where
 h:((0 < ei.size∧0 < ei.bytes)∧(∀ row∈new,row.length=ei.size∧row.all okc=true) ∧
   match s with
   | .nils=>if new.length=0 then K .nils h else ((new.length * ei.bytes≤140737488355328)∧K (.ms h.blks.length 0 new.length none) (h.push (.rows new true false)))
   | .ms b i len capo =>
    match h.blk? b with
    | some (.rows rs g false) =>
     if new.length=0 then K (.ms b i len capo) h else
     (∀ row∈rs,row.length=ei.size∧row.all okc=true)∧((len + new.length) * ei.bytes≤140737488355328) ∧
     match capo with
     | none=>(i=0∧0 < len∧len=rs.length)∧K (.ms b 0 (len + new.length) none) (h.put b (.rows (rs ++ new) true false))
     | some c=>(c < len + new.length∧i + len≤rs.length∧K (.ms h.blks.length 0 (len + new.length) none) (h.push (.rows ((rs.drop i).take len ++ new) true false))) ∨
       (len + new.length≤c∧g=false∧i + len + new.length≤rs.length∧K (.ms b i (len + new.length) (some c)) (h.put b (.rows (rs.take (i + len) ++ new ++ rs.drop (i + len + new.length)) false false)))
    | _=>False
   | _=>False)
omit [Gl] in
theorem zB {h:Heap} {row:List AV} {ei:TI} {K:AV→Heap→Prop} (hs:(0 < ei.size∧0 < ei.bytes)∧ei.bytes≤140737488355328) (hr:row.length=ei.size∧row.all okc=true)
  (hk:K (.ms h.blks.length 0 1 none) (h.push (.rows [row] true false))):apX h .nils [row] ei K:=by
 refine ⟨hs.1,fun r hr'=>by simp at hr';subst hr';exact hr,?_⟩
 show if [row].length=0 then _ else _
 rw [if_neg (by simp)]
 exact ⟨by simpa using hs.2,hk⟩
omit [Gl] in
theorem wy {h:Heap} {b len:Nat} {g:Bool} {rs:List (List AV)} {row:List AV} {ei:TI} {K:AV→Heap→Prop} (hb:h.blk? b=some (.rows rs g false)) (hs:0 < ei.size∧0 < ei.bytes) (hr:row.length=ei.size∧row.all okc=true)
  (hrs:∀ r∈rs,r.length=ei.size∧r.all okc=true) (hl:0 < len∧len=rs.length∧(len + 1) * ei.bytes≤140737488355328) (hk:K (.ms b 0 (len + 1) none) (h.put b (.rows (rs ++ [row]) true false))):apX h (.ms b 0 len none) [row] ei K:=by
 refine ⟨hs,fun r hr'=>by simp at hr';subst hr';exact hr,?_⟩
 show match h.blk? b with | some (.rows rs g false)=>_ | _=>False
 rw [hb]
 show if [row].length=0 then _ else _
 rw [if_neg (by simp)]
 exact ⟨hrs,hl.2.2,⟨rfl,hl.1,hl.2.1⟩,hk⟩
structure stX (rs:List (List AV)) (i j:Nat) (ti:TI) (v:AV) (K:List (List AV)→Prop):Prop where
 h:∃ row,rs[i]? = some row∧((xd v).all okc && (xd v).length == ti.size && Nat.ble (j + ti.size) row.length)=true∧K (rs.set i (row.take j ++ xd v ++ row.drop (j + ti.size)))
omit [Gl] in
theorem vn {rs rs':List (List AV)} {i j:Nat} {ti:TI} {v:AV} {K:List (List AV)→Prop} {row:List AV} (e:rs[i]? = some row) (hb:((xd v).all okc && (xd v).length == ti.size && Nat.ble (j + ti.size) row.length)=true)
  (e':rs.set i (row.take j ++ xd v ++ row.drop (j + ti.size))=rs') (h:K rs'):stX rs i j ti v K:=⟨row,e,hb,e' ▸ h⟩
omit [Gl] in
theorem qa [FH] {row:List AV} {j:Nat} {ti:TI} {v:AV} {K:List (List AV)→Prop} (hb:((xd v).all okc && (xd v).length == ti.size && Nat.ble (j + ti.size) row.length)=true)
  (h:yy (row.take j ++ xd v ++ row.drop (j + ti.size)) fun r=>K [r]):stX [row] 0 j ti v K:=by
 rw [wO] at h
 exact ⟨row,rfl,hb,h⟩
end stops
def vaL (T:Tab) (st:St) (c:Call) (K:AV→Prop):Prop :=
 match c.argTypes.toList,c.args.toList with
 | [t],[x] =>
  (match T t with
  | none=>False
  | some ti =>
   (match ti.desc,st.ev x with
   | .string,.str s=>gaq s.length fun n=>K (.int .i64 n)
   | .array n _,_=>K (.int .i64 n)
   | .slice _,.vs es _=>gaq es.length fun n=>K (.int .i64 n)
   | .slice _,.ms b _ len _=>(match st.h.blk? b with | some (.rows _ _ _)=>gaq len fun n=>K (.int .i64 n) | _=>False)
   | .slice _,.nils=>K (.int .i64 0)
   | _,_=>False))
 | _,_=>False
theorem ybZ {T:Tab} {st:St} {c:Call} {K:AV→Heap→Prop} (hc:c.callee=.builtin .len) {P:Program} (h:vaL T st c (fun r=>K r st.h)):ve P T st c K:=by
 unfold vaL at h
 unfold ve
 rw [hc]
 simp only
 split at h
 ·rename_i t x h1 h2
  simp only [h1,h2]
  unfold gC
  split at h
  ·exact h.elim
  ·rename_i ti hti
   simp only [hti]
   split at h
   ·rename_i hd hx;simp only [hd,hx];exact h.h
   ·rename_i hd;simp only [hd];exact h
   ·rename_i hd hx;simp only [hd,hx];exact h.h
   ·rename_i hd hx;simp only [hd,hx]
    split at h
    ·rename_i hb;simp only [hb];exact h.h
    ·exact h.elim
   ·rename_i hd hx;simp only [hd,hx];exact h
   ·exact h.elim
 ·exact h.elim
def gaN [FH] (P:Program) (T:Tab) (st:St) (o:Oper) (t:TypeId) (x i:Operand) (K:AV→Heap→Prop):Prop :=
 match st.ev x,st.ev i with
 | .vs es _,.int _ n=>(match T t with
  | none=>False
  | some ti=>(match ti.desc with
   | .slice e=>(match T e with | none=>False | some ei=>qbk es ei.size n fun r=>K r st.h)
   | _=>False))
 | .ms b s len _,.int _ n=>(match T t with
  | none=>False
  | some ti=>(match ti.desc with
   | .slice e=>(match T e,st.h.blk? b with
    | some ei,some (.rows rs _ _)=>ybl rs s len ei.size n fun j=>K (.ptr b j 0) st.h
    | _,_=>False)
   | _=>False))
 | _,_=>opW P T st o K
theorem gb2 [FH] {P:Program} {T:Tab} {st:St} {o:Oper} {t:TypeId} {x i:Operand} {K:AV→Heap→Prop} (ho:o.op=.indexAddr t x i) (h:gaN P T st o t x i K):opW P T st o K:=by
 unfold gaN at h
 split at h
 ·rename_i es c k n hx hi
  simp only [opW,ho,hx,hi,yD,jH]
  split at h
  ·exact h.elim
  ·rename_i ti hti
   simp only [hti]
   split at h
   ·rename_i e hd
    simp only [hd]
    split at h
    ·exact h.elim
    ·rename_i ei he
     simp only [he];exact h.h
   ·exact h.elim
 ·rename_i b s len c k n hx hi
  simp only [opW,ho,hx,hi,yD,jH]
  split at h
  ·exact h.elim
  ·rename_i ti hti
   simp only [hti]
   split at h
   ·rename_i e hd
    simp only [hd]
    split at h
    ·rename_i ei rs g fz he hb
     simp only [he,hb];exact h.h
    ·exact h.elim
   ·exact h.elim
 ·exact h
def gaB [FH] (P:Program) (T:Tab) (st:St) (o:Oper) (t:TypeId) (x:Operand) (lo hi mx:Option Operand) (K:AV→Heap→Prop):Prop :=
 match mx,st.ev x with
 | none,.vs es capo=>(match T t with
  | none=>False
  | some ti=>(match ti.desc with
   | .slice e=>(match T e,gu (lo.map st.ev),gz es.length (hi.map st.ev) with
    | some ei,some l,some u=>vbJ es capo ei.size l u fun r=>K r st.h
    | _,_,_=>False)
   | _=>False))
 | none,.str s=>(match T t with
  | none=>False
  | some ti=>(match ti.desc with
   | .string=>(match gu (lo.map st.ev),gz s.length (hi.map st.ev) with
    | some l,some u=>za3 s l u fun r=>K r st.h
    | _,_=>False)
   | _=>False))
 | _,_=>opW P T st o K
theorem ubJ [FH] {P:Program} {T:Tab} {st:St} {o:Oper} {t:TypeId} {x:Operand} {lo hi mx:Option Operand} {K:AV→Heap→Prop} (ho:o.op=.slice t x lo hi mx) (h:gaB P T st o t x lo hi mx K):opW P T st o K:=by
 unfold gaB at h
 split at h
 ·rename_i es capo hx
  simp only [opW,ho,hx,vr,Option.map_none]
  split at h
  ·exact h.elim
  ·rename_i ti hti
   simp only [hti]
   split at h
   ·rename_i e hd
    simp only [hd]
    split at h
    ·rename_i ei l u he hl hu
     simp only [he,hl,hu];exact h.h
    ·exact h.elim
   ·exact h.elim
 ·rename_i s hx
  simp only [opW,ho,hx,vr,Option.map_none]
  split at h
  ·exact h.elim
  ·rename_i ti hti
   simp only [hti]
   split at h
   ·rename_i hd
    simp only [hd]
    split at h
    ·rename_i l u hl hu
     simp only [hl,hu];exact h.h
    ·exact h.elim
   ·exact h.elim
 ·exact h
def zaO [FH] (P:Program) (T:Tab) (st:St) (o:Oper) (t:TypeId) (x i:Operand) (K:AV→Heap→Prop):Prop :=
 match st.ev x,st.ev i with
 | .str s,.int _ n=>(match T t with
  | none=>False
  | some ti=>(match ti.desc with
   | .string=>zbl s n fun r=>K r st.h
   | _=>False))
 | _,_=>opW P T st o K
theorem xb3 [FH] {P:Program} {T:Tab} {st:St} {o:Oper} {t:TypeId} {x i:Operand} {K:AV→Heap→Prop} (ho:o.op=.index t x i) (h:zaO P T st o t x i K):opW P T st o K:=by
 unfold zaO at h
 split at h
 ·rename_i s k n hx hi
  simp only [opW,ho,hx,hi,xR]
  split at h
  ·exact h.elim
  ·rename_i ti hti
   simp only [hti]
   split at h
   ·rename_i hd
    simp only [hd];exact h.h
   ·exact h.elim
 ·exact h
def jaL [FH] (P:Program) (T:Tab) (st:St) (o:Oper) (t:TypeId) (a:Operand) (K:AV→Heap→Prop):Prop :=
 match st.ev a with
 | .ptr b i j=>(match T t,st.h.blk? b with
  | some ti,some (.rows rs _ _)=>ldX rs i j ti fun r=>K r st.h
  | _,_=>False)
 | _=>opW P T st o K
theorem wbZ [FH] {P:Program} {T:Tab} {st:St} {o:Oper} {t:TypeId} {a:Operand} {K:AV→Heap→Prop} (ho:o.op=.load t a) (h:jaL P T st o t a K):opW P T st o K:=by
 unfold jaL at h
 split at h
 ·rename_i b i j hx
  simp only [opW,ho,hx,qC]
  split at h
  ·rename_i ti rs g fz hti hb
   simp only [hti,hb]
   obtain ⟨r,h1,h2⟩:=h.h
   simp only [h1];exact h2
  ·exact h.elim
 ·exact h
def waB [FH] (P:Program) (T:Tab) (st:St) (o:Oper) (t:TypeId) (a x:Operand) (K:AV→Heap→Prop):Prop :=
 match st.ev a with
 | .ptr b i j=>(match T t,st.h.blk? b with
  | some ti,some (.rows rs false false)=>uS (st.ev x) fun v=>stX rs i j ti v fun rs'=>K .junk (st.h.put b (.rows rs' false false))
  | _,_=>False)
 | _=>opW P T st o K
theorem ybH [FH] {P:Program} {T:Tab} {st:St} {o:Oper} {t:TypeId} {a x:Operand} {K:AV→Heap→Prop} (ho:o.op=.store t a x) (h:waB P T st o t a x K):opW P T st o K:=by
 unfold waB at h
 split at h
 ·rename_i b i j hx
  simp only [opW,ho,hx,xV]
  split at h
  ·rename_i ti rs hti hb
   rw [waf] at h
   simp only [hti,hb]
   obtain ⟨row,h1,h2,h3⟩:=h.h
   simp only [h1,h2,if_true];exact h3
  ·exact h.elim
 ·exact h
def vaJ [FH] (P:Program) (T:Tab) (st:St) (o:Oper) (t:TypeId) (l c:Operand) (K:AV→Heap→Prop):Prop :=
 match st.ev l,st.ev c with
 | .int _ l,.int _ c=>(match T t with
  | none=>False
  | some ti=>(match ti.desc with
   | .slice e=>(match T e with | none=>False | some ei=>mkX l c ei fun n m rs=>K (.ms st.h.blks.length 0 n (some m)) (st.h.push (.rows rs false false)))
   | _=>False))
 | _,_=>opW P T st o K
theorem zbY [FH] {P:Program} {T:Tab} {st:St} {o:Oper} {t:TypeId} {l c:Operand} {K:AV→Heap→Prop} (ho:o.op=.makeSlice t l c) (h:vaJ P T st o t l c K):opW P T st o K:=by
 unfold vaJ at h
 split at h
 ·rename_i kl l' kc c' hl hc
  simp only [opW,ho,hl,hc,qX]
  split at h
  ·exact h.elim
  ·rename_i ti hti
   split at h
   ·rename_i e hd
    split at h
    ·exact h.elim
    ·rename_i ei he
     obtain ⟨desc,sz,by',ze,cm⟩:=ti
     simp only at hd
     subst hd
     simp only [hti,he]
     exact h.h
   ·exact h.elim
 ·exact h
def vaW [FH] (P:Program) (T:Tab) (st:St) (o:Oper) (c:Call) (K:AV→Heap→Prop):Prop :=
 match c.argTypes.toList,c.args.toList with
 | [t,u],[s,x] =>
  (match T t,T u with
  | some ti,some ui =>
   (match ti.desc with
   | .slice e=>(match T e with
    | none=>False
    | some ei=>(gE ui.desc=true∧(match st.ev x with | .str _=>ei.size=1 | _=>True)) ∧
     (match jo st.h (st.ev x) with
     | none=>False
     | some new=>qaf new fun new=>fHd (st.ev s) fun s=>(match s with
      | .vs _ _=>opW P T st o K
      | s=>apX st.h s new ei K)))
   | _=>False)
  | _,_=>False)
 | _,_=>False
theorem qcg [FH] {P:Program} {T:Tab} {st:St} {o:Oper} {c:Call} {K:AV→Heap→Prop} (ho:o.op=.call c) (hc:c.callee=.builtin .append) (h:vaW P T st o c K):opW P T st o K:=by
 unfold vaW at h
 split at h
 ·rename_i t u s x h1 h2
  split at h
  ·rename_i ti ui ht hu
   split at h
   ·rename_i e hd
    split at h
    ·exact h.elim
    ·rename_i ei he
     obtain ⟨⟨h3,h4⟩,h5⟩:=h
     split at h5
     ·exact h5.elim
     ·rename_i new hnew
      rw [y3,zaR] at h5
      split at h5
      ·exact h5
      ·rename_i s' hs'
       obtain ⟨desc,sz,by',ze,cm⟩:=ti
       simp only at hd
       subst hd
       simp only [opW,ho,ve,hc,h1,h2,ht,hu]
       refine ⟨⟨h3,?_⟩,?_⟩
       ·simp only [he];exact h4
       ·obtain ⟨a1,a2,a3⟩:=h5.h
        refine .inl ?_
        unfold zr
        simp only [ht,he,hnew]
        refine ⟨a1,a2,?_⟩
        cases hs:st.ev s with
        | nils =>
         rw [hs] at a3
         simp only at a3 ⊢
         split
         ·rename_i h0;rw [if_pos h0] at a3;exact .inl a3
         ·rename_i h0;rw [if_neg h0] at a3;exact ⟨a3.1,.inl a3.2⟩
        | ms b i len capo =>
         rw [hs] at a3
         simp only at a3 ⊢
         cases hb:st.h.blk? b with
         | none=>rw [hb] at a3;exact a3.elim
         | some bk =>
          rw [hb] at a3
          cases bk with
          | mapb es=>exact a3.elim
          | rows rs g fz =>
           cases fz with
           | true=>exact a3.elim
           | false =>
            simp only at a3 ⊢
            split
            ·rename_i h0;rw [if_pos h0] at a3;exact .inl a3
            ·rename_i h0
             rw [if_neg h0] at a3
             refine ⟨a3.1,a3.2.1,?_⟩
             cases capo with
             | none=>exact ⟨a3.2.2.1,.inl a3.2.2.2⟩
             | some c=>exact a3.2.2.imp (fun q=>⟨q.1,q.2.1,.inl q.2.2⟩) fun q=>⟨q.1,q.2.1,q.2.2.1,.inl q.2.2.2⟩
        | _=>rw [hs] at a3;exact a3.elim
   ·exact h.elim
  ·exact h.elim
 ·exact h.elim
def opX [Bare] [FH] (P:Program) (T:Tab) (st:St) (o:Oper) (K:AV→Heap→Prop):Prop :=
 match o.op with
 | .unOp op t x=>(match op,st.ev x with
  | .neg,.int k n=>qD k (0 - n) fun v=>K (.int k v) st.h
  | _,_=>opW P T st o K)
 | .binOp op t x y _ =>
  match st.ev x,st.ev y with
  | .int k a,.int k' b=>(match op with
   | .add=>k=k'∧qD k (a + b) fun v=>K (.int k v) st.h
   | .sub=>k=k'∧qD k (a - b) fun v=>K (.int k v) st.h
   | .mul=>k=k'∧qD k (a * b) fun v=>K (.int k v) st.h
   | .quo=>k=k'∧zbs k a b fun v=>K (.int k v) st.h
   | .rem=>k=k'∧wa6 a b fun v=>K (.int k v) st.h
   | op=>gj T st.h op t (.int k a) (.int k' b) (fun r=>K r st.h))
  | .str a,.str b=>gj T st.h op t (.str a) (.str b) (fun r=>K r st.h)
  | x',y'=>opW P T st o K
 | .convert s d x =>
  match st.ev x with
  | .int _ n=>(match T s,T d with
   | some _,some di=>(match di.desc with
    | .int k=>qD k n fun v=>K (.int k v) st.h
    | _=>False)
   | _,_=>False)
  | x'=>opW P T st o K
 | .pick c a b=>(match st.ev c with
  | .bool t=>vO t (K (st.ev a) st.h) (K (st.ev b) st.h)
  | _=>False)
 | .indexAddr t x i=>gaN P T st o t x i K
 | .slice t x lo hi mx=>gaB P T st o t x lo hi mx K
 | .index t x i=>zaO P T st o t x i K
 | .load t a=>jaL P T st o t a K
 | .store t a x=>waB P T st o t a x K
 | .makeSlice t l c=>vaJ P T st o t l c K
 | .call c =>
  match c.callee with
  | .builtin .append=>vaW P T st o c K
  | .builtin .len=>vaL T st c (fun r=>K r st.h)
  | .value f =>
   match st.ev f with
   | .fn (.func g) first cap=>yy (first ++ (c.args.toList.map st.ev) ++ cap) fun args=>uaY P g args st.h K
   | .yld l=>yy (c.args.toList.map st.ev) fun args=>zbA P l args st.h K
   | _=>opW P T st o K
  | _=>opW P T st o K
 | _=>opW P T st o K
theorem qac [Bare] [FH] {P:Program} {T:Tab} {st:St} {o:Oper} {K:AV→Heap→Prop} (h:opX P T st o K):opW P T st o K:=by
 unfold opX at h
 split at h
 ·rename_i op t x ho
  split at h
  ·rename_i k n hx
   simp only [opW,ho,hx,unA]
   exact h.h
  ·exact h
 ·rename_i op t x y u ho
  split at h
  ·rename_i k a k' b hx hy
   simp only [opW,ho,hx,hy]
   refine .inl ?_
   split at h
   ·obtain ⟨rfl,h⟩:=h
    simp only [gj,yw,if_true];exact h.h
   ·obtain ⟨rfl,h⟩:=h
    simp only [gj,yw,if_true];exact h.h
   ·obtain ⟨rfl,h⟩:=h
    simp only [gj,yw,if_true];exact h.h
   ·obtain ⟨rfl,h⟩:=h
    simp only [gj,yw,if_true];exact h.h
   ·obtain ⟨rfl,h⟩:=h
    simp only [gj,yw,if_true];exact h.h
   ·exact h
  ·rename_i a b hx hy
   simp only [opW,ho,hx,hy]
   exact .inl h
  ·exact h
 ·rename_i s d x ho
  split at h
  ·rename_i k n hx
   simp only [opW,ho,hx]
   refine .inl ?_
   split at h
   ·rename_i di hs hd
    split at h
    ·rename_i k' hk
     simp only [jJ,hs,hd,hk];exact h.h
    ·exact h.elim
   ·exact h.elim
  ·exact h
 ·rename_i c a b ho
  simp only [opW,ho]
  split at h
  ·rename_i t ht
   simp only [ht]
   have:=h.h
   cases t <;> exact this
  ·exact h.elim
 ·rename_i ho;exact gb2 ho h
 ·rename_i ho;exact ubJ ho h
 ·rename_i ho;exact xb3 ho h
 ·rename_i ho;exact wbZ ho h
 ·rename_i ho;exact ybH ho h
 ·rename_i ho;exact zbY ho h
 ·rename_i c ho
  split at h
  ·rename_i hc;exact qcg ho hc h
  ·rename_i hc
   simp only [opW,ho]
   exact ybZ hc h
  ·rename_i f hc
   split at h
   ·rename_i g first cap hf
    rw [wO] at h
    simp only [opW,ho,ve,hc,uo,hf]
    exact h.h
   ·rename_i l hf
    rw [wO] at h
    simp only [opW,ho,ve,hc,hf]
    exact h.h
   ·exact h
  ·exact h
 ·exact h
def zas (ops:Array Oper) (ts:List AV) (o:Oper) (A B:Prop):Prop:=match o.guard with
 | none=>A
 | some _=>match yg ops ts o with
  | none=>False
  | some g=>vO g A B
omit [Gl] in
theorem xbm {ops:Array Oper} {ts:List AV} {o:Oper} {A B:Prop} (h:zas ops ts o A B):(yg ops ts o=some true∧A)∨(yg ops ts o=some false∧B):=by
 unfold zas at h
 split at h
 ·rename_i hg
  exact .inl ⟨by simp [yg,hg],h⟩
 ·split at h
  ·exact h.elim
  ·rename_i g hg
   cases g with
   | true=>exact .inl ⟨hg,h.h⟩
   | false=>exact .inr ⟨hg,h.h⟩
def opK [Bare] [FH] (P:Program) (T:Tab) (ops:Array Oper) (st:St) (o:Oper) (K:AV→Heap→Prop):Prop :=
 zas ops st.tmps o (opX P T st o K) (K (.tup []) st.h)
def xao [Bare] [FH] (P:Program) (T:Tab) (ops:Array Oper) (Q:gb→St→Prop):List Oper→St→Prop
 | [],st=>Q .normal st
 | o :: rest,st=>opK P T ops st o (fun r h'=>j0 st.tmps o.dst r fun ts=>FH.fh h' fun h'=>xao P T ops Q rest { tmps:=ts,h:=h' })
structure vK where
 j:Nat
 o:Oper
 ts:List AV
 v:AV
def reD [Bare] [FH] (P:Program) (T:Tab) (ops:Array Oper) (k:Nat) (h:Heap):List vK→Prop
 | []=>True
 | ⟨j,o,ts,v⟩ :: l=>(Nat.testBit ((qj ops).getD k 0) j=true∨∀ K:AV→Heap→Prop,K v h→opX P T ⟨ts,h⟩ o K)∧reD P T ops k h l
def uaE [Bare] [FH] (P:Program) (T:Tab) (ops:Array Oper) (k:Nat) (ts:List AV) (o:Oper) (v:AV):List (Nat × Heap)→Prop
 | []=>True
 | (j,h) :: l=>(Nat.testBit ((qj ops).getD k 0) j=true∨∀ K:AV→Heap→Prop,K v h→opX P T ⟨ts,h⟩ o K)∧uaE P T ops k ts o v l
def jaG (ops:Array Oper) (k:Nat):List (Nat × Heap)→Prop
 | []=>True
 | (j,_) :: l=>Nat.testBit ((qj ops).getD k 0) j=true∧jaG ops k l
def opD [Bare] [FH] (P:Program) (T:Tab) (ops:Array Oper) (k:Nat) (past:List (Nat × Heap)) (sil:List vK) (st:St) (o:Oper) (L:List (Nat × Heap)→List vK→St→Prop):Prop :=
 zas ops st.tmps o
  (∃ v h',(∀ K:AV→Heap→Prop,K v h'→opX P T st o K) ∧
   ((h'=st.h∧uaE P T ops k st.tmps o v past∧uS v fun v=>j0 st.tmps o.dst v fun ts=>L past (⟨k,o,st.tmps,v⟩ :: sil) ⟨ts,st.h⟩) ∨
    (jaG ops k past∧reD P T ops k h' sil∧j0 st.tmps o.dst v fun ts=>FH.fh h' fun h'=>L ((k,st.h) :: past) sil ⟨ts,h'⟩)))
  (j0 st.tmps o.dst (.tup []) fun ts=>L past sil ⟨ts,st.h⟩)
def wt [Bare] [FH] (P:Program) (T:Tab) (ops:Array Oper) (Q:gb→St→Prop):List Oper→Nat→List (Nat × Heap)→List vK→St→Prop
 | [],_,_,_,st=>Q .normal st
 | o :: rest,k,past,sil,st=>opD P T ops k past sil st o fun past sil st=>wt P T ops Q rest (k + 1) past sil st
def wpx [Bare] [FH] (P:Program) (T:Tab) (n m:Nat) (rnd:Option Nat):Code→St→(gb→St→Prop)→Prop
 | .skip,st,Q=>Q .normal st
 | .label _,st,Q=>Q .normal st
 | .region id ops draw,st,Q =>
  match draw with
  | false=>xao P T ops Q ops.toList st
  | true=>(uv ops=true∧wt P T ops Q ops.toList 0 [] [] st)∨TodoSem P n m rnd [.code (.region id ops true)] st Q
 | .seq a b,st,Q=>wpx P T n m rnd a st (vG (fun s=>wpx P T n m rnd b s Q) Q)
 | .cond c a b,st,Q =>
  match st.ev c with
  | .bool t=>vO t (wpx P T n m rnd a st Q) (wpx P T n m rnd b st Q)
  | _=>False
 | .block id c,st,Q=>wpx P T n m rnd c st (gK id Q)
 | .loop c,st,Q=>TodoSem P n m rnd [.inLoop c] st Q
 | .exit id,st,Q=>Q (.jump (.exit id)) st
 | .goto l,st,Q=>Q (.jump (.goto l)) st
 | .ret,st,Q=>Q (.jump .ret) st
 | .scope c,st,Q=>TodoSem P n m rnd [.code c,.inScope c] st Q
 | .rangeFunc f ps a b,st,Q=>TodoSem P n m rnd [.code (.rangeFunc f ps a b)] st Q
 | .refuse _,_,_=>False
omit [Gl] in
theorem zo {a b c:Prop} (h:a∧b) (m:c):a∧b∧c:=⟨h.1,h.2,m⟩
section sound
variable [Bare] [FH] {P:Program} {T:Tab} {n m:Nat} {rnd:Option Nat}
theorem qaH {ops:Array Oper} {Q:gb→St→Prop}:∀ (l:List Oper) (st:St),xao P T ops Q l st→∀ (k:Nat),ops.toList.drop k=l→∀ (_:wc P T),TodoSem P n m rnd [.inRegion ops (List.range' k l.length)] st Q
 | [],st,h,k,_,_=>wU h
 | o :: l,st,h,k,hk,hT=>by
  have hlt:k < ops.toList.length:=by
   rcases Nat.lt_or_ge k ops.toList.length with h | h
   ·exact h
   ·rw [List.drop_eq_nil_of_le h] at hk;cases hk
  rw [List.drop_eq_getElem_cons hlt] at hk
  injection hk with h1 h2
  have ho:ops[k]? = some o:=by
   rw [← h1,Array.getElem_toList]
   exact Array.getElem?_eq_getElem (by simpa using hlt)
  rw [List.length_cons,List.range'_succ]
  unfold xao opK at h
  rcases xbm h with ⟨hg,h⟩ | ⟨hg,h⟩
  ·have h':=qac h
   have hs:=vao hT h'
   refine wak ho hg (uao h') ?_
   intro hh
   exact (hs hh).mono fun r h' hq=>qaH l _ (by rw [uaf,FH.eq] at hq;exact hq) (k + 1) h2 hT
  ·rw [uaf,FH.eq] at h
   exact xak ho hg (qaH l _ h (k + 1) h2 hT)
theorem qa6 {ops:Array Oper} {k:Nat} {h:Heap}:∀ {l:List vK},reD P T ops k h l→∀ s∈l,Nat.testBit ((qj ops).getD k 0) s.j=true∨∀ K:AV→Heap→Prop,K s.v h→opW P T ⟨s.ts,h⟩ s.o K
 | [],_,s,hs=>by cases hs
 | a :: l,hl,s,hs=>by
  rcases List.mem_cons.1 hs with rfl | hs
  ·exact hl.1.imp id fun q K hK=>qac (q K hK)
  ·exact qa6 hl.2 s hs
theorem ja6 {ops:Array Oper} {k:Nat} {ts:List AV} {o:Oper} {v:AV}:∀ {l:List (Nat × Heap)},uaE P T ops k ts o v l→∀ p∈l,Nat.testBit ((qj ops).getD k 0) p.1=true∨∀ K:AV→Heap→Prop,K v p.2→opW P T ⟨ts,p.2⟩ o K
 | [],_,p,hp=>by cases hp
 | a :: l,hl,p,hp=>by
  rcases List.mem_cons.1 hp with rfl | hp
  ·exact hl.1.imp id fun q K hK=>qac (q K hK)
  ·exact ja6 hl.2 p hp
omit [Gl] [Bare] [FH] in
theorem zba {ops:Array Oper} {k:Nat}:∀ {l:List (Nat × Heap)},jaG ops k l→∀ p∈l,Nat.testBit ((qj ops).getD k 0) p.1=true
 | [],_,p,hp=>by cases hp
 | a :: l,hl,p,hp=>by
  rcases List.mem_cons.1 hp with rfl | hp
  ·exact hl.1
  ·exact zba hl.2 p hp
def At (P:Program) (T:Tab) (ops:Array Oper) (A0:List AV) (V:Nat→AV) (i:Nat) (o:Oper) (h h':Heap):Prop:=∀ K:AV→Heap→Prop,K (V i) h'→opW P T ⟨XT ops V A0 i,h⟩ o K
def vax (P:Program) (T:Tab) (ops:Array Oper) (A0:List AV) (V:Nat→AV) (isW:Nat→Bool) (H:Nat→Heap) (i:Nat) (o:Oper):Prop :=
 (yg ops (XT ops V A0 i) o=some false∧V i=.tup []∧isW i=false∧H (i + 1)=H i) ∨
 (yg ops (XT ops V A0 i) o=some true∧isW i=false∧H (i + 1)=H i∧At P T ops A0 V i o (H i) (H i)∧∀ w,w < i→isW w=true→Nat.testBit ((qj ops).getD i 0) w=true∨At P T ops A0 V i o (H w) (H w)) ∨
 (yg ops (XT ops V A0 i) o=some true∧isW i=true∧At P T ops A0 V i o (H i) (H (i + 1))∧(∀ w,w < i→isW w=true→Nat.testBit ((qj ops).getD i 0) w=true) ∧
  ∀ j oj,j < i→ops[j]? = some oj→isW j=false→yg ops (XT ops V A0 j) oj=some true→Nat.testBit ((qj ops).getD i 0) j=true∨At P T ops A0 V j oj (H (i + 1)) (H (i + 1)))
theorem zbc {ops:Array Oper} {A0:List AV} {Q:gb→St→Prop}:∀ (l:List Oper) (k:Nat) (past:List (Nat × Heap)) (sil:List vK) (V:Nat→AV) (isW:Nat→Bool) (H:Nat→Heap),ops.toList.drop k=l→k≤ops.size →
  (∀ w,w < k→isW w=true→(w,H w)∈past)→(∀ j oj,j < k→ops[j]? = some oj→isW j=false→yg ops (XT ops V A0 j) oj=some true→(⟨j,oj,XT ops V A0 j,V j⟩:vK)∈sil) →
  wt P T ops Q l k past sil ⟨XT ops V A0 k,H k⟩ →
  ∃ (V':Nat→AV) (isW':Nat→Bool) (H':Nat→Heap),(∀ j,j < k→V' j=V j∧isW' j=isW j)∧(∀ j,j≤k→H' j=H j)∧(∀ i o,k≤i→ops[i]? = some o→vax P T ops A0 V' isW' H' i o)∧Q .normal ⟨XT ops V' A0 ops.size,H' ops.size⟩
 | [],k,past,sil,V,isW,H,hk,hkn,hp,hs,hq=>by
  have:k=ops.size:=by
   have:=List.drop_eq_nil_iff.1 hk
   simp at this;omega
  subst this
  refine ⟨V,isW,H,fun _ _=>⟨rfl,rfl⟩,fun _ _=>rfl,fun i o hi ho => ?_,hq⟩
  have:=(Array.getElem?_eq_some_iff.1 ho).1
  omega
 | o :: l,k,past,sil,V,isW,H,hk,hkn,hp,hs,hq=>by
  have hlt:k < ops.toList.length:=by
   rcases Nat.lt_or_ge k ops.toList.length with h | h
   ·exact h
   ·rw [List.drop_eq_nil_of_le h] at hk;cases hk
  rw [List.drop_eq_getElem_cons hlt] at hk
  injection hk with h1 h2
  have ho:ops[k]? = some o:=by
   rw [← h1,Array.getElem_toList]
   exact Array.getElem?_eq_getElem (by simpa using hlt)
  have hks:k < ops.size:=by simpa using hlt
  have hdo:jq ops k=o.dst:=by simp [jq,ho]
  have X0:∀ (v:AV) i,i≤k→XT ops (upd V k v) A0 i=XT ops V A0 i:=fun v i hi=>qai i fun j hj=>xu V v (by omega:j≠k)
  have H0:∀ h' i,i≤k→upd H (k + 1) h' i=H i:=fun h' i hi=>xu H h' (by omega)
  have W0:∀ w i,i < k→upd isW k w i=isW i:=fun w i hi=>xu isW w (by omega)
  have V0:∀ v i,i < k→upd V k v i=V i:=fun v i hi=>xu V v (by omega)
  have next:∀ v w h' past' sil',wt P T ops Q l (k + 1) past' sil' ⟨yi (XT ops V A0 k) o.dst v,h'⟩→vax P T ops A0 (upd V k v) (upd isW k w) (upd H (k + 1) h') k o →
    (∀ i,i < k + 1→upd isW k w i=true→(i,upd H (k + 1) h' i)∈past') →
    (∀ j oj,j < k + 1→ops[j]? = some oj→upd isW k w j=false→yg ops (XT ops (upd V k v) A0 j) oj=some true→(⟨j,oj,XT ops (upd V k v) A0 j,upd V k v j⟩:vK)∈sil') →
    ∃ (V':Nat→AV) (isW':Nat→Bool) (H':Nat→Heap),(∀ j,j < k→V' j=V j∧isW' j=isW j)∧(∀ j,j≤k→H' j=H j)∧(∀ i o,k≤i→ops[i]? = some o→vax P T ops A0 V' isW' H' i o)∧Q .normal ⟨XT ops V' A0 ops.size,H' ops.size⟩:=fun v w h' past' sil' hv hc hp' hs'=>by
   have hX:XT ops (upd V k v) A0 (k + 1)=yi (XT ops V A0 k) o.dst v:=by
    show yi (XT ops (upd V k v) A0 k) (jq ops k) (upd V k v k)=_
    rw [zh,hdo,X0 v k (Nat.le_refl _)]
   obtain ⟨V',isW',H',a1,a2,a3,a4⟩:=zbc l (k + 1) past' sil' (upd V k v) (upd isW k w) (upd H (k + 1) h') h2 (by omega) hp' hs' (by rw [hX,zh];exact hv)
   refine ⟨V',isW',H',fun j hj => ?_,fun j hj=>by rw [a2 j (by omega),H0 h' j hj],fun i o' hi hoi => ?_,a4⟩
   ·obtain ⟨b1,b2⟩:=a1 j (by omega)
    exact ⟨by rw [b1,V0 v j hj],by rw [b2,W0 w j hj]⟩
   ·rcases Nat.lt_or_ge k i with hki | hki
    ·exact a3 i o' (by omega) hoi
    ·obtain rfl:i=k:=by omega
     rw [ho] at hoi;injection hoi with hoi;subst hoi
     have hXi:∀ j,j≤i→XT ops V' A0 j=XT ops (upd V i v) A0 j:=fun j hj=>qai j fun t ht=>(a1 t (by omega)).1
     have hAt:∀ j oj g g',j≤i→At P T ops A0 (upd V i v) j oj g g'→At P T ops A0 V' j oj g g':=fun j oj g g' hj hat K hK=>by
      rw [hXi j hj];rw [(a1 j (by omega)).1] at hK;exact hat K hK
     rcases hc with ⟨c1,c2,c3,c4⟩ | ⟨c1,c2,c3,c4,c5⟩ | ⟨c1,c2,c3,c4,c5⟩
     ·exact .inl ⟨by rw [hXi i (Nat.le_refl _)];exact c1,by rw [(a1 i (by omega)).1];exact c2,by rw [(a1 i (by omega)).2];exact c3,by rw [a2 (i + 1) (Nat.le_refl _),a2 i (by omega)];exact c4⟩
     ·refine .inr (.inl ⟨by rw [hXi i (Nat.le_refl _)];exact c1,by rw [(a1 i (by omega)).2];exact c2,by rw [a2 (i + 1) (Nat.le_refl _),a2 i (by omega)];exact c3,by rw [a2 i (by omega)];exact hAt i o _ _ (Nat.le_refl _) c4,fun t ht hw => ?_⟩)
      rw [(a1 t (by omega)).2] at hw
      rw [a2 t (by omega)]
      exact (c5 t ht hw).imp id (hAt i o _ _ (Nat.le_refl _))
     ·refine .inr (.inr ⟨by rw [hXi i (Nat.le_refl _)];exact c1,by rw [(a1 i (by omega)).2];exact c2,by rw [a2 (i + 1) (Nat.le_refl _),a2 i (by omega)];exact hAt i o _ _ (Nat.le_refl _) c3,fun t ht hw => ?_,fun j oj hj hoj hw hg => ?_⟩)
      ·rw [(a1 t (by omega)).2] at hw
       exact c4 t ht hw
      ·rw [(a1 j (by omega)).2] at hw
       rw [hXi j (by omega)] at hg
       rw [a2 (i + 1) (Nat.le_refl _)]
       exact (c5 j oj hj hoj hw hg).imp id (hAt j oj _ _ (by omega))
  have keepP:∀ w h',(∀ i,i < k→upd isW k w i=true→(i,upd H (k + 1) h' i)∈past):=fun w h' i hi hw=>by
   rw [W0 w i hi] at hw
   rw [H0 h' i (by omega)]
   exact hp i hi hw
  have keepS:∀ v w,(∀ j oj,j < k→ops[j]? = some oj→upd isW k w j=false→yg ops (XT ops (upd V k v) A0 j) oj=some true→(⟨j,oj,XT ops (upd V k v) A0 j,upd V k v j⟩:vK)∈sil):=fun v w j oj hj hoj hw hg=>by
   rw [W0 w j hj] at hw
   rw [X0 v j (by omega)] at hg ⊢
   rw [V0 v j hj]
   exact hs j oj hj hoj hw hg
  unfold wt opD at hq
  rcases xbm hq with ⟨hg,hq⟩ | ⟨hg,hq⟩
  ·obtain ⟨v,h',hv1,hv2⟩:=hq
   rcases hv2 with ⟨rfl,hv2,hv3⟩ | ⟨hv2,hv4,hv3⟩
   ·rw [waf,uaf] at hv3
    refine next v false (H k) past (⟨k,o,XT ops V A0 k,v⟩ :: sil) hv3 (.inr (.inl ⟨by rw [X0 v k (Nat.le_refl _)];exact hg,zh _ _ _,by rw [zh,H0 _ k (Nat.le_refl _)],fun K hK => ?_,fun w hw hww => ?_⟩)) (fun i hi hw => ?_) fun j oj hj hoj hw hgj => ?_
    ·rw [zh,H0 _ k (Nat.le_refl _)] at hK
     rw [X0 v k (Nat.le_refl _),H0 _ k (Nat.le_refl _)];exact qac (hv1 K hK)
    ·rw [W0 false w hw] at hww
     rcases ja6 hv2 _ (hp w hw hww) with q | q
     ·exact .inl q
     ·refine .inr fun K hK => ?_
      rw [zh,H0 _ w (by omega)] at hK
      rw [X0 v k (Nat.le_refl _),H0 _ w (by omega)]
      exact q K hK
    ·rcases Nat.lt_or_ge i k with q | q
     ·exact keepP false (H k) i q hw
     ·obtain rfl:i=k:=by omega
      rw [zh] at hw;cases hw
    ·rcases Nat.lt_or_ge j k with q | q
     ·exact List.mem_cons_of_mem _ (keepS v false j oj q hoj hw hgj)
     ·obtain rfl:j=k:=by omega
      rw [ho] at hoj;injection hoj with hoj;subst hoj
      rw [X0 v j (Nat.le_refl _),zh]
      exact List.mem_cons_self
   ·rw [uaf,FH.eq] at hv3
    refine next v true h' ((k,H k) :: past) sil hv3 (.inr (.inr ⟨by rw [X0 v k (Nat.le_refl _)];exact hg,zh _ _ _,fun K hK => ?_,fun w hw hww => ?_,fun j oj hj hoj hw hgj => ?_⟩)) (fun i hi hw => ?_) fun j oj hj hoj hw hgj => ?_
    ·rw [zh,zh] at hK
     rw [X0 v k (Nat.le_refl _),H0 _ k (Nat.le_refl _)];exact qac (hv1 K hK)
    ·rw [W0 true w hw] at hww
     exact zba hv2 _ (hp w hw hww)
    ·have hm:=keepS v true j oj hj hoj hw hgj
     rcases qa6 hv4 _ hm with q | q
     ·exact .inl q
     ·refine .inr fun K hK => ?_
      rw [zh] at hK ⊢
      exact q K hK
    ·rcases Nat.lt_or_ge i k with q | q
     ·exact List.mem_cons_of_mem _ (keepP true h' i q hw)
     ·obtain rfl:i=k:=by omega
      rw [H0 _ i (Nat.le_refl _)]
      exact List.mem_cons_self
    ·rcases Nat.lt_or_ge j k with q | q
     ·exact keepS v true j oj q hoj hw hgj
     ·obtain rfl:j=k:=by omega
      rw [zh] at hw;cases hw
  ·rw [uaf] at hq
   refine next (.tup []) false (H k) past sil hq (.inl ⟨by rw [X0 _ k (Nat.le_refl _)];exact hg,zh _ _ _,zh _ _ _,by rw [zh,H0 _ k (Nat.le_refl _)]⟩) (fun i hi hw => ?_) fun j oj hj hoj hw hgj => ?_
   ·rcases Nat.lt_or_ge i k with q | q
    ·exact keepP false (H k) i q hw
    ·obtain rfl:i=k:=by omega
     rw [zh] at hw;cases hw
   ·rcases Nat.lt_or_ge j k with q | q
    ·exact keepS _ false j oj q hoj hw hgj
    ·obtain rfl:j=k:=by omega
     rw [ho] at hoj;injection hoj with hoj;subst hoj
     rw [X0 _ j (Nat.le_refl _),hg] at hgj
     cases hgj
theorem ybc {ops:Array Oper} {A0:List AV} {h:Heap} {Q:gb→St→Prop} (hb:uv ops=true) (hq:wt P T ops Q ops.toList 0 [] [] ⟨A0,h⟩) :
  ∃ (V:Nat→AV) (isW:Nat→Bool) (H:Nat→Heap),Plan P T ops A0 V isW H∧H 0=h∧Q .normal ⟨XT ops V A0 ops.size,H ops.size⟩:=by
 obtain ⟨V,isW,H,v0,v1,v2,v3⟩:=zbc (A0:=A0) ops.toList 0 [] [] (fun _=>.junk) (fun _=>false) (fun _=>h) rfl (Nat.zero_le _) (fun w hw=>by omega) (fun j oj hj=>by omega) hq
 unfold uv at hb
 rw [Bool.and_eq_true] at hb
 have one:∀ i,i < ops.size→∃ o,ops[i]? = some o∧vax P T ops A0 V isW H i o:=fun i hi=>⟨ops[i],Array.getElem?_eq_getElem hi,v2 i _ (Nat.zero_le _) (Array.getElem?_eq_getElem hi)⟩
 have same:∀ i,i < ops.size→isW i=false→H (i + 1)=H i:=fun i hi hw=>by
  obtain ⟨o,_,h1⟩:=one i hi
  rcases h1 with ⟨_,_,_,g⟩ | ⟨_,_,g,_⟩ | ⟨_,g,_⟩
  ·exact g
  ·exact g
  ·rw [hw] at g;cases g
 have writer:∀ i,i < ops.size→isW i=true→(∀ w,w < i→isW w=true→Bef ops w i)∧∀ j oj,j < i→ops[j]? = some oj→isW j=false→yg ops (XT ops V A0 j) oj=some true→Bef ops j i∨At P T ops A0 V j oj (H (i + 1)) (H (i + 1)):=fun i hi hw=>by
  obtain ⟨o,_,h1⟩:=one i hi
  rcases h1 with ⟨_,_,g,_⟩ | ⟨_,g,_⟩ | ⟨_,_,_,g1,g2⟩
  ·rw [hw] at g;cases g
  ·rw [hw] at g;cases g
  ·exact ⟨fun w h1 h2=>wad i w (g1 w h1 h2),fun j oj h1 h2 h3 h4=>(g2 j oj h1 h2 h3 h4).imp (wad i j) (fun q=>q)⟩
 have range:∀ a b,a≤b→b≤ops.size→(∀ w,a≤w→w < b→isW w=false)→H b=H a:=fun a b=>by
  induction b with
  | zero=>intro h _ _;obtain rfl:a=0:=by omega
          rfl
  | succ b ih =>
   intro hab hbn hw
   by_cases he:a=b + 1
   ·rw [he]
   ·rw [same b (by omega) (hw b (by omega) (by omega))]
    exact ih (by omega) (by omega) fun w h1 h2=>hw w h1 (by omega)
 have last:∀ a b,(∀ w,a≤w→w < b→isW w=false)∨∃ w,a≤w∧w < b∧isW w=true∧∀ t,w < t→t < b→isW t=false:=fun a b=>by
  induction b with
  | zero=>exact .inl fun w _ h=>by omega
  | succ b ih =>
   by_cases hab:a≤b
   ·cases hw:isW b with
    | true=>exact .inr ⟨b,hab,by omega,hw,fun t h1 h2=>by omega⟩
    | false =>
     rcases ih with ih | ⟨w,w1,w2,w3,w4⟩
     ·refine .inl fun w h1 h2 => ?_
      rcases Nat.lt_or_ge w b with q | q
      ·exact ih w h1 q
      ·obtain rfl:w=b:=by omega
       exact hw
     ·refine .inr ⟨w,w1,by omega,w3,fun t h1 h2 => ?_⟩
      rcases Nat.lt_or_ge t b with q | q
      ·exact w4 t h1 q
      ·obtain rfl:t=b:=by omega
       exact hw
   ·exact .inl fun w h1 h2=>by omega
 have pl:Plan P T ops A0 V isW H:=⟨wbx hb.1,gbx hb.2,fun i j hij hj hi hj'=>(writer j hj hj').1 i hij hi,same,fun i o ho=>by
  have hi:=(Array.getElem?_eq_some_iff.1 ho).1
  rcases v2 i o (Nat.zero_le _) ho with ⟨g1,g2,g3,g4⟩ | ⟨g1,g2,g3,g4,g5⟩ | ⟨g1,g2,g3,g4,g5⟩
  ·exact .inl ⟨g1,g2,g3⟩
  ·refine .inr (.inr ⟨g1,g2,fun p hp c1 c2 => ?_⟩)
   rcases Nat.lt_or_ge p i with hpi | hpi
   ·rcases xbp isW p i with hf | ⟨w,w1,w2,w3,w4⟩
    ·rw [← range p i (by omega) (by omega) hf];exact g4
    ·rw [← range p w w1 (by omega) w4]
     exact (g5 w w2 w3).resolve_left fun hbit=>c2 w w3 (by omega) w1 (wad i w hbit)
   ·rcases last i p with hf | ⟨w,w1,w2,w3,w4⟩
    ·rw [range i p hpi hp hf];exact g4
    ·have hiw:i < w:=by
      rcases Nat.lt_or_ge i w with q | q
      ·exact q
      ·obtain rfl:w=i:=by omega
       rw [g2] at w3;cases w3
     rw [range (w + 1) p (by omega) hp fun t h1 h2=>w4 t (by omega) h2]
     exact ((writer w (by omega) w3).2 i o hiw ho g2 g1).resolve_left (c1 w w3 w2)
  ·exact .inr (.inl ⟨g1,g2,g3⟩)⟩
 exact ⟨V,isW,H,pl,v1 0 (Nat.le_refl _),v3⟩
theorem qbR (hT:wc P T) (hm:P.follows .mixedOrders=true) {id:Nat} {ops:Array Oper} {st:St} {Q:gb→St→Prop} (hb:uv ops=true) (hq:wt P T ops Q ops.toList 0 [] [] st) :
  TodoSem P n m rnd [.code (.region id ops true)] st Q:=by
 obtain ⟨V,isW,H,pl,h0,hq⟩:=ybc hb hq
 exact jbP pl hT hm h0 hq
theorem uaj (hT:wc P T) (hm:P.follows .mixedOrders=true):∀ (c:Code) (st:St) (Q:gb→St→Prop),wpx P T n m rnd c st Q→TodoSem P n m rnd [.code c] st Q:=by
 intro c
 induction c with
 | skip=>exact fun st Q h=>uaA h
 | label l=>exact fun st Q h=>qaA h
 | region id ops draw =>
  intro st Q h
  cases draw with
  | true =>
   rcases h with ⟨h1,h2⟩ | h
   ·exact qbR hT hm h1 h2
   ·exact h
  | false =>
   refine ga1 ?_
   have:=qaH (n:=n) (m:=m) (rnd:=rnd) ops.toList st h 0 rfl hT
   rw [Array.length_toList,← List.range_eq_range'] at this
   exact this
 | seq a b iha ihb =>
  intro st Q h
  refine qU ((iha st _ h).mono fun e s hq => ?_)
  cases e with
  | normal=>exact ihb s Q hq
  | jump j=>exact hq
 | cond c a b iha ihb =>
  intro st Q h
  simp only [wpx] at h
  split at h
  ·rename_i t hc
   cases t with
   | true=>exact zal hc (iha st Q h.h)
   | false=>exact zal hc (ihb st Q h.h)
  ·exact h.elim
 | block id c ih=>exact fun st Q h=>yal (ih st _ h)
 | loop c ih=>exact fun st Q h=>za2 h
 | exit id=>exact fun st Q h=>gU _ trivial h
 | goto l=>exact fun st Q h=>gU _ trivial h
 | ret=>exact fun st Q h=>gU _ trivial h
 | scope c ih=>exact fun st Q h=>ja1 h
 | rangeFunc f ps a b iha ihb=>exact fun st Q h=>h
 | refuse why=>exact fun st Q h=>h.elim
def waR [FH] (T:Tab) (fn:Func) (K:AV→Heap→Prop):gb→St→Prop
 | .normal,s=>(match gv T s fn.results.toList with | some l=>yy l fun l=>uS (wz l) fun r=>K r s.h | none=>False)
 | .jump .ret,s=>(match gv T s fn.results.toList with | some l=>yy l fun l=>uS (wz l) fun r=>K r s.h | none=>False)
 | _,_=>False
theorem jb (hT:wc P T) (hm:P.follows .mixedOrders=true) {f:FuncId} {fn:Func} {c:Code} {args:List AV} {h:Heap} {K:AV→Heap→Prop} (hf:P.funcs[f]? = some fn) (hb:fn.body=some c) (hn:(fn.name == "runtime.NumGoroutine")=false)
  (g:yy (args ++ List.replicate (fn.ntmps - args.length) .junk) fun ts=>FH.fh h fun h'=>wpx P T h.blks.length h.loops.length none c { tmps:=ts,h:=h' } (waR T fn K)):CallSem P f args h K:=by
 rw [wO,FH.eq] at g
 refine zbv hf hb hn ((uaj hT hm c _ _ g).mono fun e s hq => ?_)
 cases e with
 | normal =>
  simp only [waR,wO,waf] at hq
  split at hq
  ·rename_i l hl
   exact ⟨trivial,_,uam hT hl,hq⟩
  ·exact hq.elim
 | jump j =>
  cases j <;> simp only [waR,wO,waf] at hq <;> first | (exact hq.elim) | skip
  split at hq
  ·rename_i l hl
   exact ⟨trivial,_,uam hT hl,hq⟩
  ·exact hq.elim
theorem zn (hT:wc P T) (hm:P.follows .mixedOrders=true) {c:Code} {ts:List AV} {h:Heap} {Q:gb→St→Prop} (g:qaf ts fun ts=>FH.fh h fun h=>wpx P T n m rnd c ⟨ts,h⟩ Q):TodoSem P n m rnd [.code c] ⟨ts,h⟩ Q:=by
 rw [y3,FH.eq] at g
 exact uaj hT hm c _ _ g
end sound
def qv:List (TypeId × TI)→Tab
 | [],_=>none
 | p :: l,t=>match Nat.beq p.1 t with | true=>some p.2 | false=>qv l t
theorem gak {P:Program}:∀ (l:List (TypeId × TI)),(∀ p∈l,jG P p.1=some p.2)→wc P (qv l):=fun l hl=>by
 have key:∀ (l:List (TypeId × TI)) t i,(∀ p∈l,jG P p.1=some p.2)→qv l t=some i→jG P t=some i:=fun l=>by
  induction l with
  | nil=>intro t i _ h;cases h
  | cons p l ih =>
   intro t i hl h
   unfold qv at h
   split at h
   ·rename_i e
    obtain rfl:=Nat.eq_of_beq_eq_true e
    injection h with h;subst h
    exact hl p (by simp)
   ·exact ih t i (fun q hq=>hl q (by simp [hq])) h
 exact ⟨fun t i h=>(jak P).ok t i (key l t i hl h),fun t i h=>(jak P).cmp t i (key l t i hl h)⟩
def ur:List (Nat × AV)→Nat→Option AV
 | [],_=>none
 | (a,x) :: l,i=>match Nat.beq a i with | true=>some x | false=>ur l i
def zj (l:List (Nat × AV)) (g:Nat→AV):Nat→Nat→List AV
 | 0,_=>[]
 | n + 1,i=>(match ur l i with | some x=>x | none=>g n) :: zj l g n (i + 1)
def yH (l:List (Nat × AV)) (g:Nat→AV):Nat→Nat→(List AV→Prop)→Prop
 | 0,_,K=>K []
 | n + 1,i,K=>match ur l i with
  | some x=>yH l g n (i + 1) fun r=>K (x :: r)
  | none=>yH l g n (i + 1) fun r=>K (g n :: r)
omit [Gl] in
theorem van (l:List (Nat × AV)) (g:Nat→AV):∀ (n i:Nat) (K:List AV→Prop),yH l g n i K=K (zj l g n i)
 | 0,_,_=>rfl
 | n + 1,i,K=>by
  unfold yH zj
  split <;> rw [van l g n]
def jC (ts:List AV):List (Nat × AV)→Prop
 | []=>True
 | (a,x) :: l=>ts[a]? = some x∧jC ts l
omit [Gl] in
theorem xad {ts:List AV}:∀ {l:List (Nat × AV)},jC ts l→∀ i x,ur l i=some x→ts[i]? = some x
 | [],_,i,x,h=>by cases h
 | (a,y) :: l,hm,i,x,h=>by
  unfold ur at h
  split at h
  ·rename_i e
   obtain rfl:=Nat.eq_of_beq_eq_true e
   injection h with h;subst h
   exact hm.1
  ·exact xad hm.2 i x h
omit [Gl] in
theorem qbe {ts:List AV} {l:List (Nat × AV)} (hm:jC ts l):ts=zj l (fun i=>ts.getD (ts.length - 1 - i) .junk) ts.length 0:=by
 have key:∀ (n i:Nat),i + n=ts.length→ts.drop i=zj l (fun i=>ts.getD (ts.length - 1 - i) .junk) n i:=fun n=>by
  induction n with
  | zero=>intro i hi;rw [List.drop_eq_nil_of_le (by omega)];rfl
  | succ n ih =>
   intro i hi
   have hlt:i < ts.length:=by omega
   rw [List.drop_eq_getElem_cons hlt,zj,ih (i + 1) (by omega)]
   congr 1
   split
   ·rename_i x hx
    have:=xad hm i x hx
    rw [List.getElem?_eq_getElem hlt] at this
    injection this
   ·have:ts.length - 1 - n=i:=by omega
    simp [this,hlt]
 have:=key ts.length 0 (by omega)
 rwa [List.drop_zero] at this
section loops
variable [Bare] [FH] {P:Program} {T:Tab} {n m:Nat} {rnd:Option Nat}
theorem gf (hT:wc P T) (hm:P.follows .mixedOrders=true) {c:Code} {Q:gb→St→Prop} {A:Type} (len:Nat) (mea:A→Nat) (I:A→Prop) (pt:A→List (Nat × AV)) (hp:A→Heap)
  (step:∀ (a:A) (g:Nat→AV),I a→yH (pt a) g len 0 fun ts=>FH.fh (hp a) fun h=>wpx P T n m rnd c ⟨ts,h⟩ (fun e s'=>match e with
   | .normal=>∃ a',mea a' < mea a∧I a'∧s'.h=hp a'∧s'.tmps.length=len∧jC s'.tmps (pt a')
   | .jump j=>Q (.jump j) s')) (a:A) (st:St) (h1:I a) (h2:st.h=hp a) (h3:st.tmps.length=len) (h4:jC st.tmps (pt a)):TodoSem P n m rnd [.inLoop c] st Q:=by
 have key:∀ (k:Nat) (a:A) (st:St),mea a=k→I a→st.h=hp a→st.tmps.length=len→jC st.tmps (pt a)→TodoSem P n m rnd [.inLoop c] st Q:=by
  intro k
  induction k using Nat.strongRecOn with
  | ind k ih =>
   intro a st hk i1 i2 i3 i4
   have hs:=step a (fun i=>st.tmps.getD (st.tmps.length - 1 - i) .junk) i1
   rw [van,FH.eq] at hs
   have e:zj (pt a) (fun i=>st.tmps.getD (st.tmps.length - 1 - i) .junk) len 0=st.tmps:=by rw [← i3];exact (qbe i4).symm
   rw [e,← i2] at hs
   refine xE ((uaj hT hm c st _ hs).mono fun e s hq => ?_)
   cases e with
   | normal=>obtain ⟨a',j1,j2,j3,j4,j5⟩:=hq;exact ih (mea a') (hk ▸ j1) a' s rfl j2 j3 j4 j5
   | jump j=>exact hq
 exact key _ a st rfl h1 h2 h3 h4
end loops
section wraps
variable {v:Int} {K:Int→Prop}
omit [Gl] in
theorem ub (h : -9223372036854775808≤v∧v≤9223372036854775807) (hk:K v):qD .i64 v K:=qax (IntWalk.i64_in v h) hk
omit [Gl] in
theorem gaY (h:0≤v∧v≤18446744073709551615) (hk:K v):qD .u64 v K:=qax (IntWalk.u64_in v h) hk
omit [Gl] in
theorem ubA (h:0≤v∧v≤255) (hk:K v):qD .u8 v K:=qax (IntWalk.u8_in v h) hk
end wraps
end
end Go.Abs

namespace Go.Abs
noncomputable section
def val:List Nat→Nat
 | []=>0
 | x :: l=>x + 1000000000 * val l
def wbr:Nat→Nat→List Nat
 | 0,_=>[]
 | f + 1,n=>if n=0 then [] else n % 1000000000 :: wbr f (n / 1000000000)
def enc (n:Nat):List Nat:=wbr (n + 1) n
theorem vb {x:AV} (h:Pure x):∀ y∈[x],Pure y:=by intro y hy;simp at hy;subst hy;exact h
theorem wb {x y:AV} (h:Pure x) (h':Pure y):∀ z∈[x,y],Pure z:=by intro z hz;simp at hz;rcases hz with rfl | rfl <;> assumption
def xaL (l:List Nat):List (List AV):=l.map fun (n:Nat)=>[AV.int .u32 (n:Int)]
inductive MagV (l:List Nat):AV→Prop where
 | nils (h:l=[]):MagV l .nils
 | vs (c:Option Nat):MagV l (.vs (xaL l) c)
theorem gbO (l:List Nat) (c:Option Nat):Pure (.vs (xaL l) c):=by
 refine .vs _ _ fun i hi j hj => ?_
 simp [xaL] at hi hj ⊢
 exact .int _ _
theorem MagV.pure {l:List Nat} {x:AV} (h:MagV l x):Pure x:=by
 cases h with
 | nils=>exact .nils
 | vs c=>exact gbO l c
theorem xan {x y:AV} (h:Pure x) (h':Pure y):Pure (.agg [x,y]):=.agg _ fun i hi=>by
 match i,hi with
 | 0,_=>exact h
 | 1,_=>exact h'
def WholeV (z:Int) (x:AV):Prop:=∃ X,MagV (enc z.natAbs) X∧x=.agg [.bool (decide (z < 0)),X]
theorem WholeV.pure {z:Int} {x:AV} (h:WholeV z x):Pure x:=by
 obtain ⟨X,h,rfl⟩:=h
 exact xan (.bool _) h.pure
end
end Go.Abs

namespace Go.Abs
noncomputable section
variable [Gl]
section perm
variable {P:Program} {T:Tab} {n m:Nat} {rnd:Option Nat} {ops:Array Oper} {Q:gb→St→Prop}
def zu (ops:Array Oper) (X:List (Nat × Nat)):Nat→Nat→Array Bool→Prop
 | 0,_,_=>True
 | fuel + 1,t,listed=>match (Region.ready .any ops listed)[t % (Region.ready .any ops listed).length]? with
  | none=>True
  | some i=>(∀ p∈X,p.2=i→on listed p.1=true)∧zu ops X fuel (t / (Region.ready .any ops listed).length) (listed.setIfInBounds i true)
omit [Gl] in
theorem zbW {listed:Array Bool} {i j:Nat} (h:on listed j=true):on (listed.setIfInBounds i true) j=true:=by
 by_cases hi:i < listed.size
 ·rw [xC hi];split
  ·rfl
  ·exact h
 ·rw [Array.setIfInBounds,dif_neg hi];exact h
omit [Gl] in
theorem yaM {a b:Nat}:∀ (fuel t:Nat) (listed:Array Bool),on listed a=true→zu ops [(a,b)] fuel t listed
 | 0,_,_,_=>True.intro
 | fuel + 1,t,listed,h=>by
  unfold zu
  split
  ·trivial
  ·exact ⟨fun p hp _=>by simp at hp;subst hp;exact h,yaM fuel _ _ (zbW h)⟩
omit [Gl] in
theorem ua6 {i:Nat} {listed:Array Bool} (hi:i∈Region.ready .any ops listed):i < listed.size:=by
 have h:=(mem_ready.1 hi).1
 rcases Nat.lt_or_ge i listed.size with h1 | h1
 ·exact h1
 ·simp [Array.getD,Nat.not_lt.2 h1] at h
omit [Gl] in
theorem jbh {a b:Nat} (hab:a≠b):∀ (fuel t:Nat) (listed:Array Bool),zu ops [(a,b)] fuel t listed∨zu ops [(b,a)] fuel t listed
 | 0,_,_=>.inl True.intro
 | fuel + 1,t,listed=>by
  unfold zu
  split
  ·exact .inl True.intro
  ·rename_i i hi
   have hs:=ua6 (List.mem_of_getElem? hi)
   by_cases ha:i=a
   ·refine .inl ⟨fun p hp h => ?_,yaM fuel _ _ (by rw [xC hs,if_pos ha.symm])⟩
    simp at hp;subst hp
    exact absurd (h.trans ha).symm hab
   ·by_cases hb:i=b
    ·refine .inr ⟨fun p hp h => ?_,yaM fuel _ _ (by rw [xC hs,if_pos hb.symm])⟩
     simp at hp;subst hp
     exact absurd (h.trans hb) hab
    ·rcases jbh hab fuel (t / (Region.ready .any ops listed).length) (listed.setIfInBounds i true) with h | h
     ·refine .inl ⟨fun p hp h => ?_,h⟩
      simp at hp;subst hp
      exact absurd h.symm hb
     ·refine .inr ⟨fun p hp h => ?_,h⟩
      simp at hp;subst hp
      exact absurd h.symm ha
theorem wbR (hT:wc P T) (X:List (Nat × Nat)) (Inv:Array Bool→St→Prop)
  (hstep:∀ listed st i,Inv listed st→i∈Region.ready .any ops listed→(∀ p∈X,p.2=i→on listed p.1=true)→∃ o,ops[i]? = some o∧i < listed.size∧listed[i]? = some false ∧
   ((yg ops st.tmps o=some false∧Inv (listed.setIfInBounds i true) { tmps:=yi st.tmps o.dst (.tup []),h:=st.h }) ∨
    (yg ops st.tmps o=some true∧opW P T st o fun r h'=>Inv (listed.setIfInBounds i true) { tmps:=yi st.tmps o.dst r,h:=h' })))
  (hend:∀ listed st,Inv listed st→Region.ready .any ops listed=[]→Q .normal st)
  (hzero:∀ listed st,Inv listed st→left listed=0→Region.ready .any ops listed=[]) :
  ∀ (fuel t:Nat) (listed:Array Bool) (st:St),Inv listed st→left listed=fuel→zu ops X fuel t listed→TodoSem P n m rnd [.inRegion ops (Region.linearise.go .any ops fuel t listed [])] st Q:=by
 intro fuel
 induction fuel with
 | zero =>
  intro t listed st hi hl _
  simp only [Region.linearise.go,List.reverse_nil]
  exact wU (hend listed st hi (hzero listed st hi hl))
 | succ fuel ih =>
  intro t listed st hi hl hk
  unfold zu at hk
  simp only [Region.linearise.go]
  change TodoSem P n m rnd [.inRegion ops (match (Region.ready .any ops listed)[t % (Region.ready .any ops listed).length]? with
   | some i=>Region.linearise.go .any ops fuel (t / (Region.ready .any ops listed).length) (listed.setIfInBounds i true) [i]
   | none=>[].reverse)] st Q
  cases hr:(Region.ready .any ops listed)[t % (Region.ready .any ops listed).length]? with
  | none =>
   have hnil:Region.ready .any ops listed=[]:=by
    cases hr':Region.ready .any ops listed with
    | nil=>rfl
    | cons x xs =>
     rw [hr'] at hr
     have hlt:t % (x :: xs).length < (x :: xs).length:=Nat.mod_lt _ (by simp)
     rw [List.getElem?_eq_getElem hlt] at hr
     cases hr
   exact wU (hend listed st hi hnil)
  | some i =>
   simp only []
   rw [hr] at hk
   simp only [] at hk
   rw [linearise_go_acc,List.reverse_singleton,List.singleton_append]
   obtain ⟨o,ho,hlt,hf,hcase⟩:=hstep listed st i hi (List.mem_of_getElem? hr) hk.1
   have hset:left (listed.setIfInBounds i true)=fuel:=by
    have:=zar hlt (by rw [Array.getElem?_eq_getElem hlt] at hf;injection hf)
    omega
   rcases hcase with ⟨hg,hinv⟩ | ⟨hg,hop⟩
   ·exact xak ho hg (ih _ _ _ hinv hset hk.2)
   ·refine wak ho hg (uao hop) fun hh=>(vao hT hop hh).mono fun r h' hinv=>ih _ _ _ hinv hset hk.2
theorem vbV {o:Oper} {a:Array Edge} {g:Option (Nat × Bool)} {st:St} {K:AV→Heap→Prop}:opW P T st { o with after:=a,guard:=g } K→opW P T st o K:=fun h=>by
 cases o;exact h
theorem ubP {t:Nat} {ops:Array Oper} {A0:List AV} {H:Nat→Heap} {h:Heap} (h0:H 0=h) (g:TodoSem P n m rnd [.inRegion ops (Region.linearise .any ops t)] ⟨A0,H 0⟩ Q):TodoSem P n m rnd [.inRegion ops (Region.linearise .any ops t)] ⟨A0,h⟩ Q:=h0 ▸ g
variable [Bare] [FH]
end perm
end
end Go.Abs
