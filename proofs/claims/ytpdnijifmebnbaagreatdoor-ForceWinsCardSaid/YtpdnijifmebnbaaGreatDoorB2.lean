/-
  Steps to a law of this program: AbsTab, AbsMem, AbsOps1, AbsMemM.
  Conditions: none.
-/
import Derived.Test.YtpdnijifmebnbaaGreatDoorB1
set_option linter.unusedVariables false
set_option linter.unusedSimpArgs false
set_option linter.unusedSectionVars false
namespace Go.Abs
noncomputable section
variable [Gl]
structure TI where
 desc:TypeDesc
 size:Nat
 bytes:Nat
 zero:List AV
 cmp:Bool
abbrev Tab:=TypeId→Option TI
def vH:TypeDesc→Bool
 | .struct _ | .array _ _=>true
 | _=>false
structure wc (P:Program) (T:Tab):Prop where
 ok:∀ t i,T t=some i→P.underlying t=some i.desc∧∃ info,P.info? t=some info∧info.size=i.size∧info.bytes=i.bytes ∧
  ∃ z,info.zero=some z∧z.cells.toList.map ofV=i.zero∧z.cells.size=i.size∧(∀ c∈z.cells.toList,one c=true) ∧
   (vH i.desc=true→z=.agg z.cells)∧(vH i.desc=false→z.cells = #[z])
 cmp:∀ t i,T t=some i→i.cmp=true→P.stoodInHeld t=false∧P.eqGuardType P.depth t=false
def okc:AV→Bool
 | .junk | .agg _ | .tup _=>false
 | _=>true
def xd:AV→List AV
 | .agg cs=>cs
 | x=>[x]
def Heap.push (h:Heap) (b:Blk):Heap:={ h with blks:=h.blks ++ [some b] }
def Heap.put (h:Heap) (b:Nat) (x:Blk):Heap:={ h with blks:=h.blks.set b (some x) }
def gk (ti:TI) (row:List AV) (j:Nat):Option AV :=
 if vH ti.desc then (if j + ti.size≤row.length then some (.agg ((row.drop j).take ti.size)) else none) else row[j]?
def qC (T:Tab) (h:Heap) (t:TypeId) (x:AV):Option AV :=
 match T t with
 | none=>none
 | some ti =>
  match x with
  | .ptr b i j =>
   match h.blk? b with
   | some (.rows rs _ _)=>(rs[i]?).bind fun row=>gk ti row j
   | _=>none
  | .vp row j=>gk ti row j
  | .gp g j=>(Gl.gl g).bind fun row=>gk ti row j
  | _=>none
def xV (T:Tab) (h:Heap) (t:TypeId) (x v:AV):Option Heap :=
 match T t with
 | none=>none
 | some ti =>
  match x with
  | .ptr b i j =>
   match h.blk? b with
   | some (.rows rs false false) =>
    match rs[i]? with
    | some row =>
     if (xd v).all okc && (xd v).length == ti.size && Nat.ble (j + ti.size) row.length then
      some (h.put b (.rows (rs.set i (row.take j ++ xd v ++ row.drop (j + ti.size))) false false))
     else none
    | none=>none
   | _=>none
  | _=>none
def xD (T:Tab) (h:Heap) (s:TypeId) (x:AV) (f:Nat):Option AV :=
 match T s with
 | some { desc:=.struct fs,.. } =>
  match fs[f]? with
  | none=>none
  | some fd =>
   match T fd.type with
   | none=>none
   | some fi =>
    if fi.size == 0 then none else
    match x with
    | .ptr b i j =>
     match h.blk? b with
     | some (.rows rs _ _)=>match rs[i]? with
      | some row=>if Nat.blt (j + fd.offset) row.length then some (.ptr b i (j + fd.offset)) else none
      | none=>none
     | _=>none
    | .vp row j=>some (.vp row (j + fd.offset))
    | .gp g j=>some (.gp g (j + fd.offset))
    | _=>none
 | _=>none
def gat (T:Tab) (s:TypeId) (x:AV) (f:Nat):Option AV :=
 match T s,x with
 | some { desc:=.struct fs,.. },.agg cs =>
  match fs[f]? with
  | none=>none
  | some fd=>match T fd.type with
   | none=>none
   | some fi=>gk fi cs fd.offset
 | _,_=>none
def zO (place:Nat→Option (Nat × Nat)) (cells:List AV):List (Nat × AV)→Option (List AV)
 | []=>some cells
 | (i,v) :: rest =>
  match place i with
  | none=>none
  | some (off,size) =>
   if (xd v).length == size && Nat.ble (off + size) cells.length && (xd v).all okc then
    zO place (cells.take off ++ xd v ++ cells.drop (off + size)) rest
   else none
def waG (T:Tab) (d:TypeDesc):Nat→Option (Nat × Nat) :=
 match d with
 | .struct fs=>fun i=>match fs[i]? with
  | none=>none
  | some fd=>match T fd.type with
   | none=>none
   | some fi=>some (fd.offset,fi.size)
 | .array _ e=>fun i=>match T e with
  | none=>none
  | some ei=>some (i * ei.size,ei.size)
 | _=>fun _=>none
def vbh (T:Tab):TypeDesc→Bool
 | .struct fs=>fs.toList.all fun f=>(T f.type).isSome
 | .array _ e=>(T e).isSome
 | _=>false
def zaw (T:Tab) (t:TypeId) (parts:List (Nat × AV)):Option AV :=
 match T t with
 | none=>none
 | some ti=>if vbh T ti.desc then (zO (waG T ti.desc) ti.zero parts).map .agg else none
def zy (size:Nat) (rows:List (List AV)):List (Nat × AV)→Option (List (List AV))
 | []=>some rows
 | (i,v) :: rest =>
  if (xd v).length == size && (xd v).all okc && Nat.blt i rows.length then zy size (rows.set i (xd v)) rest else none
def unA (op:UnOp) (x:AV):Option AV :=
 match op,x with
 | .neg,.int k n=>some (.int k (k.wrap (0 - n)))
 | .xor,.int k n=>some (.int k (k.wrap ((BitVec.ofInt k.bits (if k.signed then -1 else k.max) ^^^ BitVec.ofInt k.bits n).toNat)))
 | .not,.bool b=>some (.bool !b)
 | _,_=>none
def vt (h:Heap) (d:TypeDesc) (x:AV):Option Bool :=
 match d,x with
 | .slice _,.nils | .pointer _,.nilp | .func _ _ _,.nilf | .map _ _,.nilm=>some true
 | .slice _,.vs _ _ | .pointer _,.vp _ _ | .pointer _,.gp _ _ | .func _ _ _,.fn _ _ _=>some false
 | .slice _,.ms b _ _ _ | .pointer _,.ptr b _ _ | .map _ _,.mp b=>match h.blk? b with | some _=>some false | none=>none
 | _,_=>none
def yq (d:TypeDesc) (x:AV):Bool :=
 match d,x with
 | .slice _,.nils | .pointer _,.nilp | .func _ _ _,.nilf | .map _ _,.nilm=>true
 | _,_=>false
def xau (T:Tab) (eq:TypeId→AV→AV→Option Bool) (xs ys:List AV):List Field→Option Bool
 | []=>some true
 | f :: fs =>
  if f.name = "_" then none else
  match T f.type with
  | none=>none
  | some fi =>
   match gk fi xs f.offset,gk fi ys f.offset with
   | some a,some b =>
    match eq f.type a b,xau T eq xs ys fs with
    | some p,some q=>some (p && q)
    | _,_=>none
   | _,_=>none
def wau (ei:TI) (eq:AV→AV→Option Bool) (xs ys:List AV):List Nat→Option Bool
 | []=>some true
 | i :: is =>
  match gk ei xs (i * ei.size),gk ei ys (i * ei.size) with
  | some a,some b =>
   match eq a b,wau ei eq xs ys is with
   | some p,some q=>some (p && q)
   | _,_=>none
  | _,_=>none
def eqA (T:Tab):Nat→TypeId→AV→AV→Option Bool
 | 0,_,_,_=>none
 | n + 1,t,x,y =>
  match T t with
  | none=>none
  | some ti =>
   match ti.desc,x,y with
   | .bool,.bool a,.bool b=>some (a == b)
   | .int _,.int k a,.int k' b=>if k=k' then some (a == b) else none
   | .string,.str a,.str b=>some (a == b)
   | .struct fs,.agg xs,.agg ys=>if ti.cmp then xau T (eqA T n) xs ys fs.toList else none
   | .array len e,.agg xs,.agg ys =>
    if ti.cmp then (match T e with | none=>none | some ei=>wau ei (eqA T n e) xs ys (List.range len)) else none
   | _,_,_=>none
def yw (op:BinOp) (k:IntKind) (a b:Int):Option AV :=
 match op with
 | .add=>some (.int k (k.wrap (a + b)))
 | .sub=>some (.int k (k.wrap (a - b)))
 | .mul=>some (.int k (k.wrap (a * b)))
 | .and=>some (.int k (k.wrap ((BitVec.ofInt k.bits a &&& BitVec.ofInt k.bits b).toNat)))
 | .or=>some (.int k (k.wrap ((BitVec.ofInt k.bits a ||| BitVec.ofInt k.bits b).toNat)))
 | .xor=>some (.int k (k.wrap ((BitVec.ofInt k.bits a ^^^ BitVec.ofInt k.bits b).toNat)))
 | .andNot=>some (.int k (k.wrap ((BitVec.ofInt k.bits a &&& ~~~ BitVec.ofInt k.bits b).toNat)))
 | .eql=>some (.bool (a == b))
 | .neq=>some (.bool (a != b))
 | .lss=>some (.bool (a < b))
 | .leq=>some (.bool (a≤b))
 | .gtr=>some (.bool (a > b))
 | .geq=>some (.bool (a ≥ b))
 | _=>none
def yV (op:BinOp) (a b:List UInt8):Option AV :=
 match op with
 | .eql=>some (.bool (a == b))
 | .neq=>some (.bool !(a == b))
 | .lss=>some (.bool (Op.bytesLess a b))
 | .leq=>some (.bool (Op.bytesLess a b || a == b))
 | .gtr=>some (.bool !(Op.bytesLess a b || a == b))
 | .geq=>some (.bool !Op.bytesLess a b)
 | _=>none
def gj (T:Tab) (h:Heap) (op:BinOp) (t:TypeId) (x y:AV) (K:AV→Prop):Prop :=
 match op,x,y with
 | .shl,.int k a,.int _ b=>0≤b∧K (.int k (k.wrap (a * 2 ^ (min b.toNat k.bits))))
 | .shr,.int k a,.int _ b=>0≤b∧K (.int k (a.fdiv (2 ^ (min b.toNat k.bits))))
 | .quo,.int k a,.int k' b=>if k=k' then b≠0∧K (.int k (k.wrap (a.tdiv b))) else False
 | .rem,.int k a,.int k' b=>if k=k' then b≠0∧K (.int k (a.tmod b)) else False
 | op,.int k a,.int k' b=>if k=k' then (match yw op k a b with | some r=>K r | none=>False) else False
 | .add,.str a,.str b=>((a.length + b.length:Nat):Int)≤9223372036854775807∧K (.str (a ++ b))
 | op,.str a,.str b=>match yV op a b with | some r=>K r | none=>False
 | .eql,x,y =>
  match T t with
  | none=>False
  | some ti =>
   if yq ti.desc x then (match vt h ti.desc y with | some b=>K (.bool b) | none=>False)
   else if yq ti.desc y then (match vt h ti.desc x with | some b=>K (.bool b) | none=>False)
   else match eqA T 100 t x y with | some b=>K (.bool b) | none=>False
 | .neq,x,y =>
  match T t with
  | none=>False
  | some ti =>
   if yq ti.desc x then (match vt h ti.desc y with | some b=>K (.bool !b) | none=>False)
   else if yq ti.desc y then (match vt h ti.desc x with | some b=>K (.bool !b) | none=>False)
   else match eqA T 100 t x y with | some b=>K (.bool !b) | none=>False
 | _,_,_=>False
def jJ (T:Tab) (h:Heap) (src dst:TypeId) (x:AV) (K:AV→Heap→Prop):Prop :=
 match T src,T dst with
 | some _,some di =>
  match di.desc,x with
  | .int k,.int _ n=>K (.int k (k.wrap n)) h
  | .string,.str s=>K (.str s) h
  | _,_=>False
 | _,_=>False
def var (T:Tab) (t:TypeId) (g j:Nat) (ix:AV) (K:AV→Prop):Prop :=
 match T t,ix with
 | some ti,.int _ i =>
  match ti.desc with
  | .array n e =>
   match T e with
   | none=>False
   | some ei=>(0≤i∧i < n)∧K (.gp g (j + i.toNat * ei.size))
  | _=>False
 | _,_=>False
def jH (T:Tab) (h:Heap) (t:TypeId) (x ix:AV) (K:AV→Prop):Prop :=
 match T t,ix with
 | some ti,.int _ i =>
  match ti.desc,x with
  | .slice e,.ms b s len _ =>
   match T e with
   | none=>False
   | some ei=>(0≤i∧i < len)∧0 < ei.size∧(match h.blk? b with | some (.rows rs _ _)=>(∃ row,rs[s + i.toNat]? = some row∧row.length=ei.size) | _=>False)∧K (.ptr b (s + i.toNat) 0)
  | .slice e,.vs es _ =>
   match T e with
   | none=>False
   | some ei=>(0≤i∧i < es.length)∧∃ row,es[i.toNat]? = some row∧row.length=ei.size∧K (.vp row 0)
  | .array n e,.ptr b r j =>
   match T e with
   | none=>False
   | some ei=>(0≤i∧i < n)∧(match h.blk? b with | some (.rows rs _ _)=>(match rs[r]? with | some row=>j + i.toNat * ei.size < row.length | none=>False) | _=>False)∧K (.ptr b r (j + i.toNat * ei.size))
  | .array n e,.vp row j =>
   match T e with
   | none=>False
   | some ei=>(0≤i∧i < n)∧K (.vp row (j + i.toNat * ei.size))
  | _,_=>False
 | _,_=>False
def yD (T:Tab) (h:Heap) (t:TypeId) (x ix:AV) (K:AV→Prop):Prop :=
 match x with
 | .gp g j=>var T t g j ix K
 | _=>jH T h t x ix K
def xR (T:Tab) (t:TypeId) (x ix:AV) (K:AV→Prop):Prop :=
 match T t,ix with
 | some ti,.int _ i =>
  match ti.desc,x with
  | .array n e,.agg cs =>
   match T e with
   | none=>False
   | some ei=>(0≤i∧i < n)∧∃ r,gk ei cs (i.toNat * ei.size)=some r∧K r
  | .string,.str s=>0≤i∧∃ c,s[i.toNat]? = some c∧K (.int .u8 c.toNat)
  | _,_=>False
 | _,_=>False
def gu:Option AV→Option Int
 | none=>some 0
 | some (.int _ n)=>some n
 | _=>none
def gz (len:Nat):Option AV→Option Int
 | none=>some len
 | some (.int _ n)=>some n
 | _=>none
def vr (T:Tab) (h:Heap) (t:TypeId) (x:AV) (lo hi mx:Option AV) (K:AV→Prop):Prop :=
 match T t with
 | none=>False
 | some ti =>
  match ti.desc,x with
  | .string,.str s =>
   match mx,gu lo,gz s.length hi with
   | none,some l,some u=>(0≤l∧l≤u∧u≤s.length)∧K (.str ((s.take u.toNat).drop l.toNat))
   | _,_,_=>False
  | .slice e,.vs es capo =>
   match T e,gu lo,gz es.length hi,mx with
   | some ei,some l,some u,none=>(0≤l∧l≤u∧u≤es.length)∧(∀ row∈es,row.length=ei.size)∧K (.vs ((es.take u.toNat).drop l.toNat) (capo.map (· - l.toNat)))
   | some ei,some l,some u,some (.int _ m)=>hi.isSome=true∧(0≤l∧l≤u∧u≤m∧m≤es.length)∧(∀ row∈es,row.length=ei.size)∧K (.vs ((es.take u.toNat).drop l.toNat) (some (m.toNat - l.toNat)))
   | _,_,_,_=>False
  | .slice e,.nils =>
   match T e,gu lo,gz 0 hi,mx with
   | some _,some l,some u,none=>(l=0∧u=0)∧K .nils
   | some _,some l,some u,some (.int _ m)=>hi.isSome=true∧(l=0∧u=0∧m=0)∧K .nils
   | _,_,_,_=>False
  | .slice e,.ms b s len capo =>
   match T e,gu lo,gz len hi with
   | some ei,some l,some u =>
    match mx with
    | none=>(0≤l∧l≤u∧u≤len)∧(match h.blk? b with | some (.rows rs _ _)=>(∀ row∈rs,row.length=ei.size) | _=>False) ∧
      ((l=0∨l≤u)∧K (.ms b (s + l.toNat) (u.toNat - l.toNat) (capo.map (· - l.toNat)))∨l=u∧K (.vs [] none))
    | some (.int _ m)=>hi.isSome=true∧(0≤l∧l≤u∧u≤m∧m≤len)∧(match h.blk? b with | some (.rows rs _ _)=>(∀ row∈rs,row.length=ei.size) | _=>False) ∧
      ((l=0∨l < m)∧K (.ms b (s + l.toNat) (u.toNat - l.toNat) (some (m.toNat - l.toNat)))∨l=m∧K (.vs [] (some 0)))
    | _=>False
   | _,_,_=>False
  | _,_=>False
def jo (h:Heap) (x:AV):Option (List (List AV)) :=
 match x with
 | .vs es _=>some es
 | .nils=>some []
 | .str s=>some (s.map fun c=>[.int .u8 c.toNat])
 | .ms b i len _=>match h.blk? b with | some (.rows rs _ _)=>if i + len≤rs.length then some ((rs.drop i).take len) else none | _=>none
 | _=>none
def zr (T:Tab) (h:Heap) (t:TypeId) (s x:AV) (K:AV→Heap→Prop):Prop :=
 match T t with
 | some { desc:=.slice e,.. } =>
  match T e,jo h x with
  | some ei,some new =>
   (0 < ei.size∧0 < ei.bytes)∧(∀ row∈new,row.length=ei.size∧row.all okc=true) ∧
   match s with
   | .nils=>if new.length=0 then K .nils h else ((new.length * ei.bytes≤140737488355328)∧K (.ms h.blks.length 0 new.length none) (h.push (.rows new true false)))
   | .vs es capo=>if new.length=0 then K (.vs es capo) h else
     (∃ c,capo=some c∧c < es.length + new.length)∧(∀ row∈es,row.length=ei.size∧row.all okc=true)∧((es.length + new.length) * ei.bytes≤140737488355328)∧K (.ms h.blks.length 0 (es.length + new.length) none) (h.push (.rows (es ++ new) true false))
   | .ms b i len capo =>
    match h.blk? b with
    | some (.rows rs g false) =>
     if new.length=0 then K (.ms b i len capo) h else
     (∀ row∈rs,row.length=ei.size∧row.all okc=true)∧((len + new.length) * ei.bytes≤140737488355328) ∧
     match capo with
     | none=>(i=0∧0 < len∧len=rs.length)∧K (.ms b 0 (len + new.length) none) (h.put b (.rows (rs ++ new) true false))
     | some c=>(c < len + new.length∧i + len≤rs.length∧K (.ms h.blks.length 0 (len + new.length) none) (h.push (.rows ((rs.drop i).take len ++ new) true false))) ∨
       (len + new.length≤c∧g=false∧i + len + new.length≤rs.length∧K (.ms b i (len + new.length) (some c)) (h.put b (.rows (rs.take (i + len) ++ new ++ rs.drop (i + len + new.length)) false false)))
    | _=>False
   | _=>False
  | _,_=>False
 | _=>False
def gC (T:Tab) (h:Heap) (t:TypeId) (x:AV) (K:AV→Prop):Prop :=
 match T t with
 | none=>False
 | some ti =>
  match ti.desc,x with
  | .string,.str s=>K (.int .i64 s.length)
  | .array n _,_=>K (.int .i64 n)
  | .slice _,.vs es _=>K (.int .i64 es.length)
  | .slice _,.ms b _ len _=>match h.blk? b with | some (.rows _ _ _)=>K (.int .i64 len) | _=>False
  | .slice _,.nils=>K (.int .i64 0)
  | .map _ _,.mp b=>match h.blk? b with | some (.mapb es)=>K (.int .i64 es.length) | _=>False
  | _,_=>False
def qX (T:Tab) (h:Heap) (t:TypeId) (l c:AV) (K:AV→Heap→Prop):Prop :=
 match T t,l,c with
 | some { desc:=.slice e,.. },.int _ l,.int _ c =>
  match T e with
  | none=>False
  | some ei=>(0≤l∧l≤c∧(ei.bytes:Int) * c≤140737488355328∧c≤140737488355328)∧0 < ei.size∧ei.zero.all okc=true ∧
    K (.ms h.blks.length 0 l.toNat (some c.toNat)) (h.push (.rows (List.replicate c.toNat ei.zero) false false))
 | _,_,_=>False
def wT (T:Tab) (h:Heap) (t:TypeId) (len:Nat) (parts:List (Nat × AV)) (K:AV→Heap→Prop):Prop :=
 match T t with
 | some { desc:=.slice e,.. } =>
  match T e with
  | none=>False
  | some ei=>len * ei.size≤2 ^ 24∧0 < ei.size∧ei.zero.all okc=true ∧
    match zy ei.size (List.replicate len ei.zero) parts with
    | none=>False
    | some rows=>K (.ms h.blks.length 0 len (some len)) (h.push (.rows rows false false))∨K (.vs rows (some len)) h
 | _=>False
def vah (T:Tab) (h:Heap) (e:TypeId) (x:AV) (K:AV→Heap→Prop):Prop :=
 match T e with
 | none=>False
 | some ei=>((xd x).length=ei.size∧0 < ei.size∧(xd x).all okc=true)∧K (.ptr h.blks.length 0 0) (h.push (.rows [xd x] false false))
def xai (T:Tab) (h:Heap) (e:TypeId) (K:AV→Heap→Prop):Prop :=
 match T e with
 | none=>False
 | some ei=>(0 < ei.size∧ei.zero.all okc=true)∧K (.ptr h.blks.length 0 0) (h.push (.rows [ei.zero] false false))
def qx (h:Heap) (x:AV) (K:AV→Prop):Prop :=
 match x with
 | .ptr b i j=>match h.blk? b with | some (.rows _ _ _)=>K (.ptr b i j) | _=>False
 | .vp row j=>K (.vp row j)
 | .gp g j=>K (.gp g j)
 | .fn (.func f) a c=>K (.fn (.func f) a c)
 | .yld l=>match h.loop? l with | some _=>K (.yld l) | none=>False
 | _=>False
end
end Go.Abs

namespace Go.Abs
noncomputable section
variable [Gl]
omit [Gl] in
theorem yaI {E:Env} {w:World} {x:AV} {v:Value} (h:VR E w x v) (hx:okc x=true):one v=true:=by
 cases h <;> first | rfl | (simp [okc] at hx)
omit [Gl] in
theorem Addr.add_none (B off n:Nat):(Addr.add ⟨B,off,none⟩ n)=⟨B,off + n,none⟩:=by
 unfold Addr.add
 split
 ·rename_i h;subst h;rfl
 ·rfl
section run
variable {P:Program} {w:World}
omit [Gl] in
theorem ua5 {a:Addr} {v:Value} (h:w.cell? a=some v) (m:Mode:=.plain):(load a m).run P w=.ok v w:=by
 simp [load,Sem.run,h]
theorem va5 {B off:Nat} (f:Nat→Value):∀ (n i:Nat) (acc:Array Value),(∀ j,j < n→w.cell? ⟨B,off + (i + j),none⟩=some (f (i + j))) →
  (loadCellsFrom ⟨B,off,none⟩ i n acc).run P w=.ok (acc ++ ((List.range n).map fun j=>f (i + j)).toArray) w
 | 0,i,acc,_=>by simp [loadCellsFrom]
 | n + 1,i,acc,h=>by
  have h0:=h 0 (by omega)
  simp only [Nat.add_zero] at h0
  have ih:=va5 f n (i + 1) (acc.push (f i)) (fun j hj=>by
   have:=h (j + 1) (by omega)
   rw [show i + 1 + j=i + (j + 1) from by omega];exact this)
  simp only [loadCellsFrom,Sem.run_bind,Addr.add_none,ua5 h0,Result.andThen_ok,ih]
  congr 1
  apply Array.ext'
  simp [List.range_succ_eq_map,Function.comp_def]
  intro a _
  congr 1;omega
theorem ubL {B off n:Nat} (f:Nat→Value) (h:∀ j,j < n→w.cell? ⟨B,off + j,none⟩=some (f j)) :
  (loadCells ⟨B,off,none⟩ n).run P w=.ok ((List.range n).map f).toArray w:=by
 have:=va5 (P:=P) (w:=w) (B:=B) (off:=off) f n 0 #[] (fun j hj=>by simpa using h j hj)
 simpa [loadCells] using this
def qp (arr:Array Value) (off:Nat):List Value→Array Value
 | []=>arr
 | v :: vs=>qp (arr.setIfInBounds off v) (off + 1) vs
omit [Gl] in
theorem vV (vs:List Value):∀ (arr:Array Value) (off:Nat),(qp arr off vs).size=arr.size:=by
 induction vs with
 | nil=>intros;rfl
 | cons v vs ih=>intro arr off;rw [qp,ih];simp
omit [Gl] in
theorem qaa (vs:List Value):∀ (arr:Array Value) (off i:Nat),off + vs.length≤arr.size →
  (qp arr off vs)[i]? = if off≤i∧i < off + vs.length then vs[i - off]? else arr[i]? := by
 induction vs with
 | nil =>
  intro arr off i _
  simp only [qp,List.length_nil,Nat.add_zero]
  rw [if_neg (by omega)]
 | cons v vs ih =>
  intro arr off i h
  simp only [List.length_cons] at h ⊢
  rw [qp,ih _ _ _ (by simp;omega)]
  by_cases h1:off + 1≤i∧i < off + 1 + vs.length
  ·rw [if_pos h1,if_pos (by omega),show i - off=(i - (off + 1)) + 1 from by omega,List.getElem?_cons_succ]
  ·rw [if_neg h1]
   by_cases h2:i=off
   ·subst h2
    rw [if_pos (by omega),Array.getElem?_setIfInBounds_self_of_lt (by omega)];simp
   ·rw [if_neg (by omega),Array.getElem?_setIfInBounds_ne (Ne.symm h2)]
omit [Gl] in
theorem ja4 (w:World) (B o:Nat) (v:Value) (arr:Array Value) (el:TypeId) (hB:w.heap[B]? = some (.cells arr el (0,0))) :
  (w.setCell ⟨B,o,none⟩ v).heap=w.heap.setIfInBounds B (.cells (arr.setIfInBounds o v) el (0,0)):=by
 apply Array.ext_getElem?
 intro i
 by_cases h:i=B
 ·subst h
  have hlt:i < w.heap.size:=by
   rcases Nat.lt_or_ge i w.heap.size with h | h
   ·exact h
   ·rw [Array.getElem?_eq_none h] at hB;cases hB
  rw [Array.getElem?_setIfInBounds_self_of_lt hlt]
  simp [World.setCell,Array.getElem?_modify,hB]
 ·rw [Array.getElem?_setIfInBounds_ne (Ne.symm h)]
  simp [World.setCell,Array.getElem?_modify,Ne.symm h]
theorem qal {B off:Nat} {el:TypeId}:∀ (vs:List Value) (i:Nat) (arr:Array Value) (w:World),w.heap[B]? = some (.cells arr el (0,0))→(∀ v∈vs,one v=true) →
  off + i + vs.length≤arr.size →
  ∃ w',(storeCells ⟨B,off,none⟩ vs i).run P w=.ok () w'∧w'.heap=w.heap.setIfInBounds B (.cells (qp arr (off + i) vs) el (0,0))∧w'.os=w.os∧w'.output=w.output∧w'.tape=w.tape
 | [],i,arr,w,h,_,_=>⟨w,rfl,by
   simp only [qp]
   apply Array.ext_getElem?
   intro j
   by_cases hj:j=B
   ·subst hj
    have hlt:j < w.heap.size:=by
     rcases Nat.lt_or_ge j w.heap.size with h' | h'
     ·exact h'
     ·rw [Array.getElem?_eq_none h'] at h;cases h
    rw [Array.getElem?_setIfInBounds_self_of_lt hlt,h]
   ·rw [Array.getElem?_setIfInBounds_ne (Ne.symm hj)],rfl,rfl,rfl⟩
 | v :: vs,i,arr,w,h,hv,hs=>by
  simp only [List.length_cons] at hs
  have hlt:B < w.heap.size:=by
   rcases Nat.lt_or_ge B w.heap.size with h' | h'
   ·exact h'
   ·rw [Array.getElem?_eq_none h'] at h;cases h
  have hc:w.cell? ⟨B,off + i,none⟩=some arr[off + i]:=by
   simp only [World.cell?,h]
   simp
  have hf:w.frozen? ⟨B,off + i,none⟩=false:=by
   simp [World.frozen?,h]
  have h1:(w.setCell ⟨B,off + i,none⟩ v).heap[B]? = some (.cells (arr.setIfInBounds (off + i) v) el (0,0)):=by
   rw [ja4 w B (off + i) v arr el h,Array.getElem?_setIfInBounds_self_of_lt hlt]
  obtain ⟨w',r1,r2,r3,r4,r5⟩:=qal (B:=B) (off:=off) (el:=el) vs (i + 1) (arr.setIfInBounds (off + i) v) (w.setCell ⟨B,off + i,none⟩ v) h1 (fun x hx=>hv x (by simp [hx])) (by simp;omega)
  refine ⟨w',?_,?_,r3,r4,r5⟩
  ·have e:(store ⟨B,off + i,none⟩ v).run P w=.ok () (w.setCell ⟨B,off + i,none⟩ v):=by
    have h1:=hv v (by simp)
    cases v <;> simp [one] at h1 <;> simp [store,Sem.run,hc,hf]
   simp only [storeCells,Sem.run_bind,Addr.add_none,e,Result.andThen_ok]
   exact r1
  ·rw [r2,ja4 w B (off + i) v arr el h]
   apply Array.ext_getElem?
   intro j
   by_cases hj:j=B
   ·subst hj
    rw [Array.getElem?_setIfInBounds_self_of_lt (by simpa using hlt),Array.getElem?_setIfInBounds_self_of_lt hlt,qp,Nat.add_assoc]
   ·rw [Array.getElem?_setIfInBounds_ne (Ne.symm hj),Array.getElem?_setIfInBounds_ne (Ne.symm hj),Array.getElem?_setIfInBounds_ne (Ne.symm hj)]
end run
omit [Gl] in
theorem gF (h:Heap) (x:Blk) (b:Nat):(h.push x).blk? b=if b=h.blks.length then some x else h.blk? b:=by
 unfold Heap.blk? Heap.push
 by_cases hb:b=h.blks.length
 ·subst hb;simp
 ·rw [if_neg hb]
  rcases Nat.lt_or_ge b h.blks.length with hl | hl
  ·simp [List.getElem?_append_left hl]
  ·have h1:(h.blks ++ [some x])[b]? = none:=List.getElem?_eq_none (by simp;omega)
   have h2:h.blks[b]? = none:=List.getElem?_eq_none hl
   simp [h1,h2]
omit [Gl] in
theorem gJ (h:Heap) (x:Blk) (c b:Nat) (hc:c < h.blks.length):(h.put c x).blk? b=if b=c then some x else h.blk? b:=by
 unfold Heap.blk? Heap.put
 by_cases hb:b=c
 ·subst hb;simp [hc]
 ·simp [Ne.symm hb,hb]
omit [Gl] in
theorem qA {h:Heap} {b:Nat} {x:Blk} (hb:h.blk? b=some x):b < h.blks.length:=by
 rcases Nat.lt_or_ge b h.blks.length with hl | hl
 ·exact hl
 ·simp [Heap.blk?,List.getElem?_eq_none hl] at hb
omit [Gl] in
theorem Blk.Lt.mono {n m n' m':Nat} (hn:n≤n') (hm:m≤m') {x:Blk} (h:x.Lt n m):x.Lt n' m':=by
 cases x with
 | rows rs g fz=>exact fun r hr y hy=>(h r hr y hy).mono hn hm
 | mapb es=>exact fun e he=>⟨(h e he).1.mono hn hm,(h e he).2.mono hn hm⟩
theorem Heap.Lt.push {h:Heap} (hl:h.Lt) {x:Blk} (hx:x.Lt (h.blks.length + 1) h.loops.length):(h.push x).Lt:=by
 refine ⟨fun b y hb => ?_,fun l r hr y hy => ?_⟩
 ·rw [gF] at hb
  have e:(h.push x).blks.length=h.blks.length + 1:=by simp [Heap.push]
  rw [e]
  split at hb
  ·injection hb with hb;subst hb;exact hx
  ·exact (hl.blks b y hb).mono (by omega) (Nat.le_refl _)
 ·have e:(h.push x).blks.length=h.blks.length + 1:=by simp [Heap.push]
  rw [e]
  exact (hl.loops l r hr y hy).mono (by omega) (Nat.le_refl _)
theorem Heap.Lt.put {h:Heap} (hl:h.Lt) {x:Blk} {c:Nat} (hc:c < h.blks.length) (hx:x.Lt h.blks.length h.loops.length):(h.put c x).Lt:=by
 have e:(h.put c x).blks.length=h.blks.length:=by simp [Heap.put]
 refine ⟨fun b y hb => ?_,fun l r hr y hy => ?_⟩
 ·rw [gJ _ _ _ _ hc] at hb
  rw [e]
  split at hb
  ·injection hb with hb;subst hb;exact hx
  ·exact hl.blks b y hb
 ·rw [e];exact hl.loops l r hr y hy
def Env.with (E:Env) (b:Nat) (Ls:List Loc):Env :=
 { F:=fun B=>E.F B∨∃ L∈Ls,L.blk=B,ρ:=fun c=>if c=b then some Ls else E.ρ c,lam:=E.lam }
theorem xbl {E:Env} {w w':World} {h:Heap} (hr:HR E w h) {arr:Array Value} {el:TypeId} {rs:List (List AV)} {g:Bool} {sz:Nat}
  (hw:w'.heap=w.heap.push (.cells arr el (0,0))) (ho:w'.os=w.os) (hout:w'.output=w.output) (ht:w'.tape=w.tape)
  (hsz:∀ (i:Nat) (hi:i < rs.length),rs[i].length=sz) (hfit:rs.length * sz≤arr.size)
  (hval:∀ (i:Nat) (hi:i < rs.length) (j:Nat) (hj:j < rs[i].length),∃ v,arr[i * sz + j]? = some v∧VR E w rs[i][j] v∧one v=true)
  (hlt:∀ r∈rs,∀ x∈r,Lt h.blks.length h.loops.length x) :
  let L:Loc:=⟨w.heap.size,0,sz,arr.size,rs.length⟩
  let E':=E.with h.blks.length [L]
  HR E' w' (h.push (.rows rs g false))∧Ext h.blks.length h.loops.length E w E' w':=by
 intro L E'
 have hnone:E.ρ h.blks.length=none:=hr.dead _ (by simp [Heap.blk?])
 have hold:∀ B,B < w.heap.size→w'.heap[B]? = w.heap[B]? := fun B hB=>by rw [hw,Array.getElem?_push_lt hB,Array.getElem?_eq_getElem hB]
 have hnew:w'.heap[w.heap.size]? = some (.cells arr el (0,0)):=by rw [hw];simp
 have hsize:w'.heap.size=w.heap.size + 1:=by rw [hw];simp
 have hrho:∀ b,b≠h.blks.length→E'.ρ b=E.ρ b:=fun b hb=>by show (if b=_ then _ else _)=_;rw [if_neg hb]
 have hrho':E'.ρ h.blks.length=some [L]:=by show (if _ then _ else _)=_;rw [if_pos rfl]
 have keeps:Keeps h.blks.length h.loops.length E w E' w':=by
  refine ⟨fun B o v hF hc => ?_,fun b hb Ls' hLs' => ?_,fun _ _ _ h=>h⟩
  ·have hB:B < w.heap.size:=by
    rcases Nat.lt_or_ge B w.heap.size with h | h
    ·exact h
    ·simp [World.cell?,Array.getElem?_eq_none h] at hc
   refine ⟨?_,?_⟩
   ·rintro (h | ⟨L',hL',rfl⟩)
    ·exact hF h
    ·obtain rfl:L'=L:=by simpa using hL'
     exact absurd hB (Nat.lt_irrefl _)
   ·simp only [World.cell?,hold B hB] at hc ⊢;exact hc
  ·rw [hrho b (by omega)] at hLs'
   exact ⟨Ls',hLs',fun L hL=>⟨L,hL,rfl,rfl,rfl,rfl,Nat.le_refl _⟩⟩
 have hfoot:∀ B,zf E' B→zf E B∨B=w.heap.size:=by
  rintro B (⟨b,Ls,L',h1,h2,rfl⟩ | ⟨l,h1⟩)
  ·by_cases hb:b=h.blks.length
   ·subst hb
    rw [hrho'] at h1
    injection h1 with h1;subst h1
    obtain rfl:L'=L:=by simpa using h2
    exact .inr rfl
   ·rw [hrho b hb] at h1
    exact .inl (.inl ⟨b,Ls,L',h1,h2,rfl⟩)
  ·exact .inl (.inr ⟨l,h1⟩)
 refine uy (B:=Ext ..) ⟨keeps,by omega,ho,hout,ht,fun B hB _=>hold B hB,fun B _ hF=>.inl (.inl hF),fun B hB hf=>(hfoot B hf).resolve_right (by omega)⟩ fun hx => ?_
 have hFold:∀ B,B < w.heap.size→(E'.F B↔E.F B):=fun B hB=>⟨fun h=>h.elim id fun ⟨L',hL',e⟩=>by
  obtain rfl:L'=L:=by simpa using hL'
  have:w.heap.size=B:=e
  omega,.inl⟩
 refine ⟨fun b hb => ?_,fun b rs' g' fz hb => ?_,fun b es hb => ?_,fun b b' Ls Ls' L1 L2 hne h1 h2 m1 m2 hF => ?_,hr.deadl,fun l r hl => ?_,hr.lapart,?_,fun B hB => ?_,hr.globs.ext hx⟩
 ·rw [gF] at hb
  split at hb
  ·cases hb
  ·rename_i hne;rw [hrho b hne];exact hr.dead b hb
 ·rw [gF] at hb
  split at hb
  ·rename_i he
   injection hb with hb;injection hb with e1 e2 e3
   subst he;subst e1;subst e2;subst e3
   refine ⟨[L],hrho',fun _=>⟨L,rfl⟩,⟨L,by simp,rfl⟩,fun L' hL' => ?_,by simp⟩
   obtain rfl:L'=L:=by simpa using hL'
   refine ⟨⟨arr,el,hnew,rfl,fun i hi _ j hj => ?_⟩,Nat.le_refl _,by show 0 + rs.length * sz≤arr.size;omega,hsz,fun _=>.inr ⟨L,by simp,rfl⟩,fun h=>by cases h⟩
   obtain ⟨v,v1,v2,v3⟩:=hval i hi j hj
   exact ⟨v,by show arr[0 + i * sz + j]? = _;rw [Nat.zero_add];exact v1,v2.keep keeps (hlt _ (List.getElem_mem hi) _ (List.getElem_mem hj)),v3⟩
  ·rename_i hne
   obtain ⟨Ls,h1,h2⟩:=hr.rows b rs' g' fz hb
   refine ⟨Ls,by rw [hrho b hne];exact h1,h2.one,h2.now,fun L' hL' => ?_,h2.apart⟩
   have hl:=h2.all L' hL'
   obtain ⟨arr',el',a1,a2,a3⟩:=hl.lies
   have hB:L'.blk < w.heap.size:=xi hr (.inl ⟨b,Ls,L',h1,hL',rfl⟩)
   refine ⟨⟨arr',el',(hold _ hB).trans a1,a2,fun i hi hi' j hj => ?_⟩,hl.len,hl.fits,hl.sz,fun h=>.inl (hl.own h),fun h hF=>hl.free h ((hFold _ hB).1 hF)⟩
   obtain ⟨v,v1,v2,v3⟩:=a3 i hi hi' j hj
   exact ⟨v,v1,v2.keep keeps (hr.lt.blks b _ hb _ (List.getElem_mem hi) _ (List.getElem_mem hj)),v3⟩
 ·rw [gF] at hb
  split at hb
  ·injection hb with hb;cases hb
  ·rename_i hne
   obtain ⟨Ls,h1,⟨L',ces,clock,rfl,h3,h4,h5,h6⟩⟩:=hr.maps b es hb
   have hB:L'.blk < w.heap.size:=xi hr (.inl ⟨b,[L'],L',h1,by simp,rfl⟩)
   refine ⟨[L'],by rw [hrho b hne];exact h1,⟨L',ces,clock,rfl,.inl h3,(hold _ hB).trans h4,h5,fun i hi hj => ?_⟩⟩
   have hl:=hr.lt.blks b _ hb _ (List.getElem_mem hi)
   exact ⟨(h6 i hi hj).1.keep keeps hl.1,(h6 i hi hj).2.keep keeps hl.2⟩
 ·by_cases hb:b=h.blks.length
  ·have h2':E.ρ b'=some Ls':=by rw [← hrho b' (fun e=>hne (hb.trans e.symm))];exact h2
   have hB:L2.blk < w.heap.size:=xi hr (.inl ⟨b',Ls',L2,h2',m2,rfl⟩)
   rw [hb,hrho'] at h1
   injection h1 with h1;subst h1
   obtain rfl:L1=L:=by simpa using m1
   show w.heap.size≠_;omega
  ·have h1':E.ρ b=some Ls:=by rw [← hrho b hb];exact h1
   have hB:L1.blk < w.heap.size:=xi hr (.inl ⟨b,Ls,L1,h1',m1,rfl⟩)
   by_cases hb':b'=h.blks.length
   ·rw [hb',hrho'] at h2
    injection h2 with h2;subst h2
    obtain rfl:L2=L:=by simpa using m2
    show _≠w.heap.size;omega
   ·exact hr.apart b b' Ls Ls' L1 L2 hne h1' (by rw [← hrho b' hb'];exact h2) m1 m2 ((hFold _ hB).1 hF)
 ·obtain ⟨o,h1,⟨ct,df,fi,h2,h3⟩⟩:=hr.loops l r hl
  have hB:o < w.heap.size:=xi hr (.inr ⟨l,h1⟩)
  exact ⟨o,h1,⟨ct,df,fi,(hold _ hB).trans h2,h3.keep keeps (hr.lt.loops l r hl)⟩⟩
 ·exact hr.lt.push fun r hr' x hx=>(hlt r hr' x hx).mono (by omega) (Nat.le_refl _)
 ·rcases hB with h | ⟨L',hL',rfl⟩
  ·have:=hr.inside B h;omega
  ·obtain rfl:L'=L:=by simpa using hL'
   show w.heap.size < _;omega
theorem yaO {E:Env} {w w':World} {h:Heap} (hr:HR E w h) {b:Nat} {rs rs':List (List AV)} {g g':Bool} {Ls Ls':List Loc}
  (hb:h.blk? b=some (.rows rs g false)) (hLs:E.ρ b=some Ls)
  (ho:w'.os=w.os) (hout:w'.output=w.output) (ht:w'.tape=w.tape) (hsize:w.heap.size≤w'.heap.size)
  (hold:∀ B,B < w.heap.size→(∀ L∈Ls,L.blk≠B)→w'.heap[B]? = w.heap[B]?)
  (hins:∀ L'∈Ls',L'.blk < w'.heap.size∧((∃ L∈Ls,L.blk=L'.blk)∨w.heap.size≤L'.blk))
  (href:∀ L∈Ls,∃ L'∈Ls',L'.blk=L.blk∧L'.off=L.off∧L'.sz=L.sz∧L'.n=L.n∧L.len≤L'.len)
  (hrows:Keeps h.blks.length h.loops.length E w (E.with b Ls') w'→RowsAt (E.with b Ls') w' Ls' rs' g' false)
  (hlt:∀ r∈rs',∀ x∈r,Lt h.blks.length h.loops.length x) :
  HR (E.with b Ls') w' (h.put b (.rows rs' g' false))∧Ext h.blks.length h.loops.length E w (E.with b Ls') w':=by
 have hblt:b < h.blks.length:=qA hb
 obtain ⟨Ls0,e0,hra⟩:=hr.rows b rs g false hb
 rw [hLs] at e0;injection e0 with e0;subst e0
 have hown:∀ L∈Ls,E.F L.blk:=fun L hL=>(hra.all L hL).own rfl
 have hrho:∀ c,c≠b→(E.with b Ls').ρ c=E.ρ c:=fun c hc=>by show (if c=_ then _ else _)=_;rw [if_neg hc]
 have hrho':(E.with b Ls').ρ b=some Ls':=by show (if _ then _ else _)=_;rw [if_pos rfl]
 have hF':∀ B,(E.with b Ls').F B→E.F B∨w.heap.size≤B:=by
  rintro B (h | ⟨L',hL',rfl⟩)
  ·exact .inl h
  ·rcases (hins L' hL').2 with ⟨L,hL,e⟩ | h
   ·exact .inl (e ▸ hown L hL)
   ·exact .inr h
 have keeps:Keeps h.blks.length h.loops.length E w (E.with b Ls') w':=by
  refine ⟨fun B o v hF hc => ?_,fun c hc Ls2 hLs2 => ?_,fun _ _ _ h=>h⟩
  ·have hB:B < w.heap.size:=by
    rcases Nat.lt_or_ge B w.heap.size with h | h
    ·exact h
    ·simp [World.cell?,Array.getElem?_eq_none h] at hc
   refine ⟨fun h=>(hF' B h).elim hF (by omega),?_⟩
   have:=hold B hB (fun L hL e=>hF (e ▸ hown L hL))
   simp only [World.cell?,this] at hc ⊢;exact hc
  ·by_cases hcb:c=b
   ·subst hcb
    rw [hrho'] at hLs2;injection hLs2 with hLs2;subst hLs2
    exact ⟨Ls,hLs,href⟩
   ·rw [hrho c hcb] at hLs2
    exact ⟨Ls2,hLs2,fun L hL=>⟨L,hL,rfl,rfl,rfl,rfl,Nat.le_refl _⟩⟩
 have hfoot:∀ B,B < w.heap.size→zf (E.with b Ls') B→zf E B:=by
  rintro B hB (⟨c,Ls2,L',h1,h2,rfl⟩ | ⟨l,h1⟩)
  ·by_cases hcb:c=b
   ·subst hcb
    rw [hrho'] at h1;injection h1 with h1;subst h1
    rcases (hins L' h2).2 with ⟨L,hL,e⟩ | h
    ·exact .inl ⟨c,Ls,L,hLs,hL,e⟩
    ·omega
   ·rw [hrho c hcb] at h1
    exact .inl ⟨c,Ls2,L',h1,h2,rfl⟩
  ·exact .inr ⟨l,h1⟩
 have hother:∀ c Ls2 L,c≠b→E.ρ c=some Ls2→L∈Ls2→∀ L0∈Ls,L0.blk≠L.blk:=fun c Ls2 L hc h1 h2 L0 hL0 =>
  hr.apart b c Ls Ls2 L0 L (Ne.symm hc) hLs h1 hL0 h2 (hown L0 hL0)
 refine uy (B:=Ext ..) ⟨keeps,hsize,ho,hout,ht,fun B hB hf=>hold B hB (fun L hL e=>hf (.inl ⟨b,Ls,L,hLs,hL,e⟩)),fun B _ hF=>.inl (.inl hF),hfoot⟩ fun hx => ?_
 refine ⟨fun c hc => ?_,fun c rs2 g2 fz hc => ?_,fun c es hc => ?_,fun c c' L1s L2s L1 L2 hne h1 h2 m1 m2 hF => ?_,hr.deadl,fun l r hl => ?_,hr.lapart,?_,fun B hB => ?_,hr.globs.ext hx⟩
 ·rw [gJ _ _ _ _ hblt] at hc
  split at hc
  ·cases hc
  ·rename_i hne;rw [hrho c hne];exact hr.dead c hc
 ·rw [gJ _ _ _ _ hblt] at hc
  split at hc
  ·rename_i he
   injection hc with hc;injection hc with e1 e2 e3
   subst he;subst e1;subst e2;subst e3
   exact ⟨Ls',hrho',hrows keeps⟩
  ·rename_i hne
   obtain ⟨L2s,h1,h2⟩:=hr.rows c rs2 g2 fz hc
   refine ⟨L2s,by rw [hrho c hne];exact h1,h2.one,h2.now,fun L' hL' => ?_,h2.apart⟩
   have hl:=h2.all L' hL'
   obtain ⟨arr',el',a1,a2,a3⟩:=hl.lies
   have hB:L'.blk < w.heap.size:=xi hr (.inl ⟨c,L2s,L',h1,hL',rfl⟩)
   refine ⟨⟨arr',el',(hold _ hB (hother c L2s L' hne h1 hL')).trans a1,a2,fun i hi hi' j hj => ?_⟩,hl.len,hl.fits,hl.sz,fun h=>.inl (hl.own h),fun h hF=>hl.free h ((hF' _ hF).resolve_right (by omega))⟩
   obtain ⟨v,v1,v2,v3⟩:=a3 i hi hi' j hj
   exact ⟨v,v1,v2.keep keeps (hr.lt.blks c _ hc _ (List.getElem_mem hi) _ (List.getElem_mem hj)),v3⟩
 ·rw [gJ _ _ _ _ hblt] at hc
  split at hc
  ·injection hc with hc;cases hc
  ·rename_i hne
   obtain ⟨L2s,h1,⟨L',ces,clock,rfl,h3,h4,h5,h6⟩⟩:=hr.maps c es hc
   have hB:L'.blk < w.heap.size:=xi hr (.inl ⟨c,[L'],L',h1,by simp,rfl⟩)
   refine ⟨[L'],by rw [hrho c hne];exact h1,⟨L',ces,clock,rfl,.inl h3,(hold _ hB (hother c [L'] L' hne h1 (by simp))).trans h4,h5,fun i hi hj => ?_⟩⟩
   have hl:=hr.lt.blks c _ hc _ (List.getElem_mem hi)
   exact ⟨(h6 i hi hj).1.keep keeps hl.1,(h6 i hi hj).2.keep keeps hl.2⟩
 ·by_cases hcb:c=b
  ·have hcb':c'≠b:=fun e=>hne (hcb.trans e.symm)
   rw [hcb,hrho'] at h1;injection h1 with h1;subst h1
   rw [hrho c' hcb'] at h2
   rcases (hins L1 m1).2 with ⟨L,hL,e⟩ | hge
   ·rw [← e];exact hother c' L2s L2 hcb' h2 m2 L hL
   ·have hB:L2.blk < w.heap.size:=xi hr (.inl ⟨c',L2s,L2,h2,m2,rfl⟩)
    omega
  ·rw [hrho c hcb] at h1
   have hB:L1.blk < w.heap.size:=xi hr (.inl ⟨c,L1s,L1,h1,m1,rfl⟩)
   by_cases hcb':c'=b
   ·rw [hcb',hrho'] at h2;injection h2 with h2;subst h2
    rcases (hins L2 m2).2 with ⟨L,hL,e⟩ | hge
    ·rw [← e];exact Ne.symm (hother c L1s L1 hcb h1 m1 L hL)
    ·omega
   ·rw [hrho c' hcb'] at h2
    exact hr.apart c c' L1s L2s L1 L2 hne h1 h2 m1 m2 ((hF' _ hF).resolve_right (by omega))
 ·obtain ⟨o,h1,⟨ct,df,fi,h2,h3⟩⟩:=hr.loops l r hl
  have hB:o < w.heap.size:=xi hr (.inr ⟨l,h1⟩)
  have hne:∀ L∈Ls,L.blk≠o:=fun L hL e=>by
   obtain ⟨arr,el,a1,_⟩:=(hra.all L hL).lies
   rw [e,h2] at a1;cases a1
  exact ⟨o,h1,⟨ct,df,fi,(hold _ hB hne).trans h2,h3.keep keeps (hr.lt.loops l r hl)⟩⟩
 ·exact hr.lt.put hblt fun r hr' x hx=>hlt r hr' x hx
 ·rcases hB with h | ⟨L',hL',rfl⟩
  ·have:=hr.inside B h;omega
  ·exact (hins L' hL').1
end
end Go.Abs

namespace Go.Abs
noncomputable section
variable [Gl]
def VOK (P:Program) (h:Heap) (E:Env) (w:World) (s:Sem Value) (K:AV→Heap→Prop):Prop :=
 ∃ r h' E' w' v,s.run P w=.ok v w'∧K r h'∧VR E' w' r v∧HR E' w' h'∧Lt h'.blks.length h'.loops.length r∧h.blks.length≤h'.blks.length∧h.loops.length≤h'.loops.length ∧
  Ext h.blks.length h.loops.length E w E' w'
theorem VOK.val {P:Program} {h:Heap} {E:Env} {w:World} {s:Sem Value} {K:AV→Heap→Prop} {r:AV} {v:Value} (hr:HR E w h) (hs:s.run P w=.ok v w) (hv:VR E w r v)
  (hl:Lt h.blks.length h.loops.length r) (hk:K r h):VOK P h E w s K :=
 ⟨r,h,E,w,v,hs,hk,hv,hr,hl,Nat.le_refl _,Nat.le_refl _,.refl ..⟩
section gG
variable {P:Program} {w:World} {T:Tab}
omit [Gl] in
theorem xa5 {t:TypeId} {d:TypeDesc} (h:P.underlying t=some d):(underlying t).run P w=.ok d w:=by
 simp [underlying,h]
omit [Gl] in
theorem jV {t:TypeId} {i:TypeInfo} (h:P.info? t=some i):(typeInfo t).run P w=.ok i w:=by
 simp [typeInfo,h]
theorem zq (hT:wc P T) {t:TypeId} {i:TI} (h:T t=some i):(sizeOf t).run P w=.ok i.size w:=by
 obtain ⟨_,info,h1,h2,_⟩:=hT.ok t i h
 simp [sizeOf,jV h1,h2]
theorem jf (hT:wc P T) {t:TypeId} {i:TI} (h:T t=some i):(underlying t).run P w=.ok i.desc w:=xa5 (hT.ok t i h).1
theorem ja5 (hT:wc P T) {t:TypeId} {i:TI} (h:T t=some i):(isAgg t).run P w=.ok (vH i.desc) w:=by
 simp only [isAgg,Sem.run_bind,jf hT h,Result.andThen_ok]
 cases i.desc <;> rfl
theorem qaC (hT:wc P T) {t:TypeId} {i:TI} (h:T t=some i):∃ z,(zeroValue t).run P w=.ok z w∧z.cells.toList.map ofV=i.zero∧z.cells.size=i.size∧(∀ c∈z.cells.toList,one c=true):=by
 obtain ⟨_,info,h1,h2,_,z,h3,h4,h5,h6,_⟩:=hT.ok t i h
 exact ⟨z,by simp [zeroValue,jV h1,h3],h4,h5,h6⟩
end gG
structure wax (E:Env) (w:World) (B o:Nat) (row:List AV):Prop where
 ok:∃ f:Nat→Value,∀ (t:Nat) (ht:t < row.length),w.cell? ⟨B,o + t,none⟩=some (f t)∧VR E w row[t] (f t)
theorem va8 {E:Env} {w:World} {h:Heap} (hr:HR E w h) {b i j:Nat} {v:Value} (hv:VR E w (.ptr b i j) v) {rs:List (List AV)} {g fz:Bool} (hb:h.blk? b=some (.rows rs g fz))
  {row:List AV} (hrow:rs[i]? = some row):∃ B o,v=.pointer (some ⟨B,o + j,none⟩)∧wax E w B o row:=by
 cases hv with
 | ptr _ _ _ a hv =>
  obtain ⟨Ls,h1,h2⟩:=hr.rows b rs g fz hb
  obtain ⟨L,hL,h3,h4,rfl⟩:=hv Ls h1
  obtain ⟨arr,el,a1,a2,a3⟩:=(h2.all L hL).lies
  obtain ⟨hi,rfl⟩:=List.getElem?_eq_some_iff.1 hrow
  refine ⟨L.blk,L.off + i * L.sz,rfl,⟨fun t=>(arr[L.off + i * L.sz + t]?).getD undef,fun t ht => ?_⟩⟩
  obtain ⟨v,b1,b2,_⟩:=a3 i hi h3 t ht
  simp only [World.cell?,a1,b1,Option.getD_some]
  exact ⟨rfl,b2⟩
omit [Gl] in
theorem waZ {E:Env} {w:World} {row:List AV} {j:Nat} {v:Value} (hv:VR E w (.vp row j) v):∃ B o,v=.pointer (some ⟨B,o + j,none⟩)∧wax E w B o row:=by
 cases hv with
 | vp _ _ B off vals hF h=>exact ⟨B,off,rfl,⟨vals,fun t ht=>⟨(hF t ht).2,h t ht⟩⟩⟩
theorem xbn {E:Env} {w:World} {h:Heap} (hr:HR E w h) {g j:Nat} {v:Value} (hv:VR E w (.gp g j) v) {row:List AV} (hg:Gl.gl g=some row) :
  v=.pointer (some ⟨g,0 + j,none⟩)∧wax E w g 0 row∧∀ n m,∀ x∈row,Lt n m x:=by
 cases hv
 refine ⟨by rw [Nat.zero_add],⟨⟨fun t=>(w.cell? ⟨g,0 + t,none⟩).getD undef,fun t ht => ?_⟩⟩,fun n m x hx => ?_⟩
 ·obtain ⟨-,-,-,h1,arr,el,fr,h2,-,h3⟩:=hr.globs.ok g row hg
  obtain ⟨v,h3,h4⟩:=h3 t ht
  have e:w.cell? ⟨g,0 + t,none⟩=some v:=by rw [Nat.zero_add];simp only [World.cell?,h2];exact h3
  simp only [e,Option.getD_some]
  have k:Keeps 0 0 (qf E.F) w E w:=⟨fun B o v a b=>⟨a,b⟩,fun b hb=>by omega,fun l hl=>by omega⟩
  exact ⟨trivial,VR.keep k h4 (h1 _ (List.getElem_mem ht))⟩
 ·obtain ⟨-,-,-,h1,-⟩:=hr.globs.ok g row hg
  exact (h1 x hx).lt n m
section ops
variable {P:Program} {T:Tab} {h:Heap} {E:Env} {w:World} {K:AV→Heap→Prop}
omit [Gl] in
theorem jM {n m:Nat} {ti:TI} {row:List AV} {j:Nat} {r:AV} (hp:gk ti row j=some r) (hl:∀ x∈row,Lt n m x):Lt n m r:=by
 unfold gk at hp
 split at hp
 ·split at hp
  ·injection hp with hp;subst hp
   exact .agg _ fun i hi=>hl _ (List.mem_of_mem_drop (List.mem_of_mem_take (List.getElem_mem hi)))
  ·cases hp
 ·exact hl r (List.mem_of_getElem? hp)
theorem gW (hT:wc P T) {t:TypeId} {ti:TI} (ht:T t=some ti) {B o j:Nat} {row:List AV} (hc:wax E w B o row) {r:AV} (hp:gk ti row j=some r) :
  ∃ v,(loadVar t ⟨B,o + j,none⟩).run P w=.ok v w∧VR E w r v:=by
 obtain ⟨f,hf⟩:=hc.ok
 unfold gk at hp
 simp only [loadVar,Sem.run_bind,ja5 hT ht,Result.andThen_ok]
 by_cases hd:vH ti.desc=true
 ·rw [if_pos hd] at hp
  split at hp
  ·rename_i hle
   injection hp with hp;subst hp
   have hld:=ubL (P:=P) (w:=w) (B:=B) (off:=o + j) (n:=ti.size) (fun k=>f (j + k)) (fun k hk=>by
    rw [Nat.add_assoc];exact (hf (j + k) (by omega)).1)
   refine ⟨.agg ((List.range ti.size).map fun k=>f (j + k)).toArray,?_,.agg _ _ (by simp;omega) fun i hi hj => ?_⟩
   ·simp [hd,zq hT ht,hld]
   ·simp only [List.length_take,List.length_drop] at hi
    simp only [List.getElem_take,List.getElem_drop,List.getElem_toArray,List.getElem_map,List.getElem_range]
    exact (hf (j + i) (by omega)).2
  ·cases hp
 ·rw [if_neg hd] at hp
  obtain ⟨hj,rfl⟩:=List.getElem?_eq_some_iff.1 hp
  refine ⟨f j,?_,(hf j hj).2⟩
  simp only [Bool.not_eq_true] at hd
  simp [hd,ua5 (hf j hj).1]
theorem xbT (hT:wc P T) (hr:HR E w h) {t:TypeId} {x r:AV} {v:Value} (hv:VR E w x v) (hl:Lt h.blks.length h.loops.length x) (hx:qC T h t x=some r) (hk:K r h) :
  VOK P h E w (Instr.loadAt t v) K:=by
 unfold qC at hx
 split at hx
 ·cases hx
 ·rename_i ti ht
  split at hx
  ·rename_i b i j
   split at hx
   ·rename_i rs g fz hb
    obtain ⟨row,hrow,hp⟩:=Option.bind_eq_some_iff.1 hx
    obtain ⟨B,o,rfl,hc⟩:=va8 hr hv hb hrow
    obtain ⟨v',hv1,hv2⟩:=gW hT ht hc hp
    refine .val hr (v:=v') (r:=r) ?_ hv2 (jM hp fun y hy=>hr.lt.blks b _ hb row (List.mem_of_getElem? hrow) y hy) hk
    simp [Instr.loadAt,Instr.sureAddr,hv1]
   ·cases hx
  ·rename_i row j
   obtain ⟨B,o,rfl,hc⟩:=waZ hv
   obtain ⟨v',hv1,hv2⟩:=gW hT ht hc hx
   refine .val hr (v:=v') (r:=r) ?_ hv2 (jM hx fun y hy => ?_) hk
   ·simp [Instr.loadAt,Instr.sureAddr,hv1]
   ·cases hl with | vp _ _ hl=>obtain ⟨i,hi,rfl⟩:=List.getElem_of_mem hy;exact hl i hi
  ·rename_i g j
   obtain ⟨row,hg,hp⟩:=Option.bind_eq_some_iff.1 hx
   obtain ⟨rfl,hc,hlt⟩:=xbn hr hv hg
   obtain ⟨v',hv1,hv2⟩:=gW hT ht hc hp
   refine .val hr (v:=v') (r:=r) ?_ hv2 (jM hp (hlt _ _)) hk
   simp only [Instr.loadAt,Instr.sureAddr,Sem.run_bind,Sem.run_pure,Result.andThen_ok]
   exact hv1
  ·cases hx
theorem zX (hT:wc P T) {t:TypeId} {ti:TI} (ht:T t=some ti) {cs:List AV} {vs:Array Value} (hs:cs.length=vs.size)
  (hv:∀ (i:Nat) (hi:i < cs.length) (hj:i < vs.size),VR E w cs[i] vs[i]) {j:Nat} {r:AV} (hp:gk ti cs j=some r) :
  ∃ v,(part t vs j).run P w=.ok v w∧VR E w r v:=by
 unfold gk at hp
 simp only [part,Sem.run_bind,ja5 hT ht,Result.andThen_ok]
 by_cases hd:vH ti.desc=true
 ·rw [if_pos hd] at hp
  split at hp
  ·rename_i hle
   injection hp with hp;subst hp
   refine ⟨.agg (vs.extract j (j + ti.size)),?_,.agg _ _ (by simp;omega) fun i hi hj => ?_⟩
   ·simp [hd,zq hT ht]
   ·simp only [List.length_take,List.length_drop] at hi
    simp only [List.getElem_take,List.getElem_drop,Array.getElem_extract]
    exact hv (j + i) (by omega) (by omega)
  ·cases hp
 ·rw [if_neg hd] at hp
  obtain ⟨hj,rfl⟩:=List.getElem?_eq_some_iff.1 hp
  refine ⟨vs[j]'(hs ▸ hj),?_,hv j hj (hs ▸ hj)⟩
  simp only [Bool.not_eq_true] at hd
  simp [hd,Array.getElem?_eq_getElem (hs ▸ hj)]
theorem ybU (hT:wc P T) (hr:HR E w h) {t:TypeId} {x r:AV} {v:Value} {f:Nat} (hv:VR E w x v) (hl:Lt h.blks.length h.loops.length x) (hx:gat T t x f=some r) (hk:K r h) :
  VOK P h E w (Instr.field t v f) K:=by
 unfold gat at hx
 split at hx
 ·rename_i fs _ _ _ cs ht
  cases hv with
  | agg _ vs hs hv =>
   split at hx
   ·cases hx
   ·rename_i fd hfd
    split at hx
    ·cases hx
    ·rename_i fi hfi
     obtain ⟨v',h1,h2⟩:=zX hT hfi hs hv hx
     refine .val hr (v:=v') (r:=r) ?_ h2 (jM hx fun y hy => ?_) hk
     ·simp [Instr.field,jf hT ht,hfd,asAgg,h1]
     ·cases hl with | agg _ hl=>obtain ⟨i,hi,rfl⟩:=List.getElem_of_mem hy;exact hl i hi
 ·cases hx
theorem zbU (hT:wc P T) (hr:HR E w h) {t:TypeId} {x r:AV} {v:Value} {f:Nat} (hv:VR E w x v) (hl:Lt h.blks.length h.loops.length x) (hx:xD T h t x f=some r) (hk:K r h) :
  VOK P h E w (Instr.fieldAt t v f) K:=by
 unfold xD at hx
 split at hx
 ·rename_i fs _ _ _ ht
  split at hx
  ·cases hx
  ·rename_i fd hfd
   split at hx
   ·cases hx
   ·rename_i fi hfi
    split at hx
    ·cases hx
    ·rename_i hz
     have hz':fi.size≠0:=by simpa using hz
     have run:∀ B o,(Instr.fieldAt t (.pointer (some ⟨B,o,none⟩)) f).run P w=.ok (.pointer (some ⟨B,o + fd.offset,none⟩)) w:=fun B o=>by
      simp [Instr.fieldAt,jf hT ht,hfd,Instr.sureAddr,fieldPlace,zq hT hfi,hz',Addr.add_none]
     split at hx
     ·rename_i b i j
      split at hx
      ·rename_i rs g fz hb
       split at hx
       ·rename_i row hrow
        split at hx
        ·rename_i hlt
         injection hx with hx;subst hx
         have hlt':j + fd.offset < row.length:=by simpa [Nat.blt_eq] using hlt
         cases hv with
         | ptr _ _ _ a hv =>
          obtain ⟨Ls,h1,h2⟩:=hr.rows b rs g fz hb
          obtain ⟨L,hL,h3,h4,rfl⟩:=hv Ls h1
          refine .val hr (run _ _) (.ptr _ _ _ _ fun Ls' hLs' => ?_) (by cases hl with | ptr _ _ _ hl=>exact .ptr _ _ _ hl) hk
          rw [h1] at hLs';injection hLs' with hLs';subst hLs'
          obtain ⟨hi,rfl⟩:=List.getElem?_eq_some_iff.1 hrow
          exact ⟨L,hL,h3,by rw [← (h2.all L hL).sz i hi];exact hlt',by rw [Nat.add_assoc]⟩
        ·cases hx
       ·cases hx
      ·cases hx
     ·rename_i row j
      injection hx with hx;subst hx
      cases hv with
      | vp _ _ B off vals hF hh =>
       refine .val hr (run _ _) ?_ (by cases hl with | vp _ _ hl=>exact .vp _ _ hl) hk
       rw [Nat.add_assoc]
       exact .vp row (j + fd.offset) B off vals hF hh
     ·rename_i g j
      injection hx with hx;subst hx
      cases hv
      exact .val hr (run _ _) (.gp _ _) (.gp _ _) hk
     ·cases hx
 ·cases hx
def ubd:Value→Prop
 | .pointer none | .nilIface | .nilFunc=>False
 | .func (.method _) _ _=>False
 | _=>True
theorem qbS {x:AV} {v:Value} {K1:AV→Prop} (hr:HR E w h) (hv:VR E w x v) (hl:Lt h.blks.length h.loops.length x) (hx:qx h x K1) :
  ∃ r,K1 r∧VR E w r v∧Lt h.blks.length h.loops.length r∧ubd v:=by
 unfold qx at hx
 split at hx
 ·rename_i b i j
  split at hx
  ·rename_i rs g fz hb
   refine ⟨_,hx,hv,hl,?_⟩
   cases hv with
   | ptr _ _ _ a hv =>
    obtain ⟨Ls,h1,_⟩:=hr.rows b rs g fz hb
    obtain ⟨L,_,_,_,rfl⟩:=hv Ls h1
    trivial
  ·exact hx.elim
 ·refine ⟨_,hx,hv,hl,?_⟩;cases hv;trivial
 ·refine ⟨_,hx,hv,hl,?_⟩;cases hv;trivial
 ·refine ⟨_,hx,hv,hl,?_⟩;cases hv;trivial
 ·rename_i l
  split at hx
  ·rename_i r hlr
   refine ⟨_,hx,hv,hl,?_⟩
   cases hv with
   | yld _ f va vc hv =>
    obtain ⟨o,h1,_⟩:=hr.loops l r hlr
    obtain ⟨rfl,rfl,rfl⟩:=hv o h1
    trivial
  ·exact hx.elim
 ·exact hx.elim
end ops
end
end Go.Abs

namespace Go.Abs
noncomputable section
variable [Gl]
theorem gb3 {E:Env} {w w':World} {h:Heap} (hr:HR E w h) {clock:Nat}
  (hw:w'.heap=w.heap.push (.map #[] clock)) (ho:w'.os=w.os) (hout:w'.output=w.output) (ht:w'.tape=w.tape) :
  let L:Loc:=⟨w.heap.size,0,0,0,0⟩
  let E':=E.with h.blks.length [L]
  HR E' w' (h.push (.mapb []))∧Ext h.blks.length h.loops.length E w E' w':=by
 intro L E'
 have hnone:E.ρ h.blks.length=none:=hr.dead _ (by simp [Heap.blk?])
 have hold:∀ B,B < w.heap.size→w'.heap[B]? = w.heap[B]? := fun B hB=>by rw [hw,Array.getElem?_push_lt hB,Array.getElem?_eq_getElem hB]
 have hnew:w'.heap[w.heap.size]? = some (.map #[] clock):=by rw [hw];simp
 have hsize:w'.heap.size=w.heap.size + 1:=by rw [hw];simp
 have hrho:∀ b,b≠h.blks.length→E'.ρ b=E.ρ b:=fun b hb=>by show (if b=_ then _ else _)=_;rw [if_neg hb]
 have hrho':E'.ρ h.blks.length=some [L]:=by show (if _ then _ else _)=_;rw [if_pos rfl]
 have keeps:Keeps h.blks.length h.loops.length E w E' w':=by
  refine ⟨fun B o v hF hc => ?_,fun b hb Ls' hLs' => ?_,fun _ _ _ h=>h⟩
  ·have hB:B < w.heap.size:=by
    rcases Nat.lt_or_ge B w.heap.size with h | h
    ·exact h
    ·simp [World.cell?,Array.getElem?_eq_none h] at hc
   refine ⟨?_,?_⟩
   ·rintro (h | ⟨L',hL',rfl⟩)
    ·exact hF h
    ·obtain rfl:L'=L:=by simpa using hL'
     exact absurd hB (Nat.lt_irrefl _)
   ·simp only [World.cell?,hold B hB] at hc ⊢;exact hc
  ·rw [hrho b (by omega)] at hLs'
   exact ⟨Ls',hLs',fun L hL=>⟨L,hL,rfl,rfl,rfl,rfl,Nat.le_refl _⟩⟩
 have hfoot:∀ B,zf E' B→zf E B∨B=w.heap.size:=by
  rintro B (⟨b,Ls,L',h1,h2,rfl⟩ | ⟨l,h1⟩)
  ·by_cases hb:b=h.blks.length
   ·subst hb
    rw [hrho'] at h1
    injection h1 with h1;subst h1
    obtain rfl:L'=L:=by simpa using h2
    exact .inr rfl
   ·rw [hrho b hb] at h1
    exact .inl (.inl ⟨b,Ls,L',h1,h2,rfl⟩)
  ·exact .inl (.inr ⟨l,h1⟩)
 refine uy (B:=Ext ..) ⟨keeps,by omega,ho,hout,ht,fun B hB _=>hold B hB,fun B _ hF=>.inl (.inl hF),fun B hB hf=>(hfoot B hf).resolve_right (by omega)⟩ fun hx => ?_
 have hFold:∀ B,B < w.heap.size→(E'.F B↔E.F B):=fun B hB=>⟨fun h=>h.elim id fun ⟨L',hL',e⟩=>by
  obtain rfl:L'=L:=by simpa using hL'
  have:w.heap.size=B:=e
  omega,.inl⟩
 refine ⟨fun b hb => ?_,fun b rs' g' fz hb => ?_,fun b es hb => ?_,fun b b' Ls Ls' L1 L2 hne h1 h2 m1 m2 hF => ?_,hr.deadl,fun l r hl => ?_,hr.lapart,?_,fun B hB => ?_,hr.globs.ext hx⟩
 ·rw [gF] at hb
  split at hb
  ·cases hb
  ·rename_i hne;rw [hrho b hne];exact hr.dead b hb
 ·rw [gF] at hb
  split at hb
  ·injection hb with hb;cases hb
  ·rename_i hne
   obtain ⟨Ls,h1,h2⟩:=hr.rows b rs' g' fz hb
   refine ⟨Ls,by rw [hrho b hne];exact h1,h2.one,h2.now,fun L' hL' => ?_,h2.apart⟩
   have hl:=h2.all L' hL'
   obtain ⟨arr',el',a1,a2,a3⟩:=hl.lies
   have hB:L'.blk < w.heap.size:=xi hr (.inl ⟨b,Ls,L',h1,hL',rfl⟩)
   refine ⟨⟨arr',el',(hold _ hB).trans a1,a2,fun i hi hi' j hj => ?_⟩,hl.len,hl.fits,hl.sz,fun h=>.inl (hl.own h),fun h hF=>hl.free h ((hFold _ hB).1 hF)⟩
   obtain ⟨v,v1,v2,v3⟩:=a3 i hi hi' j hj
   exact ⟨v,v1,v2.keep keeps (hr.lt.blks b _ hb _ (List.getElem_mem hi) _ (List.getElem_mem hj)),v3⟩
 ·rw [gF] at hb
  split at hb
  ·rename_i he
   injection hb with hb;injection hb with e1
   subst he;subst e1
   exact ⟨[L],hrho',⟨L,#[],clock,rfl,.inr ⟨L,by simp,rfl⟩,hnew,rfl,fun i hi=>by simp at hi⟩⟩
  ·rename_i hne
   obtain ⟨Ls,h1,⟨L',ces,clock,rfl,h3,h4,h5,h6⟩⟩:=hr.maps b es hb
   have hB:L'.blk < w.heap.size:=xi hr (.inl ⟨b,[L'],L',h1,by simp,rfl⟩)
   refine ⟨[L'],by rw [hrho b hne];exact h1,⟨L',ces,clock,rfl,.inl h3,(hold _ hB).trans h4,h5,fun i hi hj => ?_⟩⟩
   have hl:=hr.lt.blks b _ hb _ (List.getElem_mem hi)
   exact ⟨(h6 i hi hj).1.keep keeps hl.1,(h6 i hi hj).2.keep keeps hl.2⟩
 ·by_cases hb:b=h.blks.length
  ·have h2':E.ρ b'=some Ls':=by rw [← hrho b' (fun e=>hne (hb.trans e.symm))];exact h2
   have hB:L2.blk < w.heap.size:=xi hr (.inl ⟨b',Ls',L2,h2',m2,rfl⟩)
   rw [hb,hrho'] at h1
   injection h1 with h1;subst h1
   obtain rfl:L1=L:=by simpa using m1
   show w.heap.size≠_;omega
  ·have h1':E.ρ b=some Ls:=by rw [← hrho b hb];exact h1
   have hB:L1.blk < w.heap.size:=xi hr (.inl ⟨b,Ls,L1,h1',m1,rfl⟩)
   by_cases hb':b'=h.blks.length
   ·rw [hb',hrho'] at h2
    injection h2 with h2;subst h2
    obtain rfl:L2=L:=by simpa using m2
    show _≠w.heap.size;omega
   ·exact hr.apart b b' Ls Ls' L1 L2 hne h1' (by rw [← hrho b' hb'];exact h2) m1 m2 ((hFold _ hB).1 hF)
 ·obtain ⟨o,h1,⟨ct,df,fi,h2,h3⟩⟩:=hr.loops l r hl
  have hB:o < w.heap.size:=xi hr (.inr ⟨l,h1⟩)
  exact ⟨o,h1,⟨ct,df,fi,(hold _ hB).trans h2,h3.keep keeps (hr.lt.loops l r hl)⟩⟩
 ·exact hr.lt.push fun e he=>by cases he
 ·rcases hB with h | ⟨L',hL',rfl⟩
  ·have:=hr.inside B h;omega
  ·obtain rfl:L'=L:=by simpa using hL'
   show w.heap.size < _;omega
theorem qb3 {E:Env} {w w':World} {h:Heap} (hr:HR E w h) {b:Nat} {es es':List (AV × AV)} {L:Loc} {ces:Array MapEntry} {clock:Nat}
  (hb:h.blk? b=some (.mapb es)) (hLs:E.ρ b=some [L])
  (ho:w'.os=w.os) (hout:w'.output=w.output) (ht:w'.tape=w.tape) (hsize:w.heap.size≤w'.heap.size)
  (hold:∀ B,B < w.heap.size→L.blk≠B→w'.heap[B]? = w.heap[B]?) (hnew:w'.heap[L.blk]? = some (.map ces clock)) (hlen:es'.length=ces.size)
  (hval:∀ (i:Nat) (hi:i < es'.length) (hj:i < ces.size),VR E w es'[i].1 ces[i].key∧VR E w es'[i].2 ces[i].val)
  (hlt:(Blk.mapb es').Lt h.blks.length h.loops.length) :
  HR E w' (h.put b (.mapb es'))∧Ext h.blks.length h.loops.length E w E w':=by
 have hblt:b < h.blks.length:=qA hb
 obtain ⟨Ls0,e0,⟨L0,ces0,clock0,rfl,hF0,hw0,_,_⟩⟩:=hr.maps b es hb
 rw [hLs] at e0;injection e0 with e0;injection e0 with e0;subst e0
 have hBl:L.blk < w.heap.size:=hr.inside _ hF0
 have keeps:Keeps h.blks.length h.loops.length E w E w':=by
  refine ⟨fun B o v hF hc => ?_,fun c hc Ls2 hLs2=>⟨Ls2,hLs2,fun L hL=>⟨L,hL,rfl,rfl,rfl,rfl,Nat.le_refl _⟩⟩,fun _ _ _ h=>h⟩
  have hB:B < w.heap.size:=by
   rcases Nat.lt_or_ge B w.heap.size with h | h
   ·exact h
   ·simp [World.cell?,Array.getElem?_eq_none h] at hc
  refine ⟨hF,?_⟩
  have:=hold B hB (fun e=>hF (e ▸ hF0))
  simp only [World.cell?,this] at hc ⊢;exact hc
 have hother:∀ c Ls2 L2,c≠b→E.ρ c=some Ls2→L2∈Ls2→L.blk≠L2.blk:=fun c Ls2 L2 hc h1 h2 =>
  hr.apart b c [L] Ls2 L L2 (Ne.symm hc) hLs h1 (by simp) h2 hF0
 refine uy (B:=Ext ..) ⟨keeps,hsize,ho,hout,ht,fun B hB hf=>hold B hB (fun e=>hf (.inl ⟨b,[L],L,hLs,by simp,e⟩)),fun B _ hF=>.inl hF,fun _ _ h=>h⟩ fun hx => ?_
 refine ⟨fun c hc => ?_,fun c rs2 g2 fz hc => ?_,fun c es2 hc => ?_,hr.apart,hr.deadl,fun l r hl => ?_,hr.lapart,?_,fun B hB=>Nat.lt_of_lt_of_le (hr.inside B hB) hsize,hr.globs.ext hx⟩
 ·rw [gJ _ _ _ _ hblt] at hc
  split at hc
  ·cases hc
  ·exact hr.dead c hc
 ·rw [gJ _ _ _ _ hblt] at hc
  split at hc
  ·injection hc with hc;cases hc
  ·rename_i hne
   obtain ⟨L2s,h1,h2⟩:=hr.rows c rs2 g2 fz hc
   refine ⟨L2s,h1,h2.one,h2.now,fun L' hL' => ?_,h2.apart⟩
   have hl:=h2.all L' hL'
   obtain ⟨arr',el',a1,a2,a3⟩:=hl.lies
   have hB:L'.blk < w.heap.size:=xi hr (.inl ⟨c,L2s,L',h1,hL',rfl⟩)
   refine ⟨⟨arr',el',(hold _ hB (hother c L2s L' hne h1 hL')).trans a1,a2,fun i hi hi' j hj => ?_⟩,hl.len,hl.fits,hl.sz,hl.own,hl.free⟩
   obtain ⟨v,v1,v2,v3⟩:=a3 i hi hi' j hj
   exact ⟨v,v1,v2.keep keeps (hr.lt.blks c _ hc _ (List.getElem_mem hi) _ (List.getElem_mem hj)),v3⟩
 ·rw [gJ _ _ _ _ hblt] at hc
  split at hc
  ·rename_i he
   injection hc with hc;injection hc with e1
   subst he;subst e1
   refine ⟨[L],hLs,⟨L,ces,clock,rfl,hF0,hnew,hlen,fun i hi hj => ?_⟩⟩
   have hl:=hlt _ (List.getElem_mem hi)
   exact ⟨(hval i hi hj).1.keep keeps hl.1,(hval i hi hj).2.keep keeps hl.2⟩
  ·rename_i hne
   obtain ⟨L2s,h1,⟨L',ces',clock',rfl,h3,h4,h5,h6⟩⟩:=hr.maps c es2 hc
   have hB:L'.blk < w.heap.size:=xi hr (.inl ⟨c,[L'],L',h1,by simp,rfl⟩)
   refine ⟨[L'],h1,⟨L',ces',clock',rfl,h3,(hold _ hB (hother c [L'] L' hne h1 (by simp))).trans h4,h5,fun i hi hj => ?_⟩⟩
   have hl:=hr.lt.blks c _ hc _ (List.getElem_mem hi)
   exact ⟨(h6 i hi hj).1.keep keeps hl.1,(h6 i hi hj).2.keep keeps hl.2⟩
 ·obtain ⟨o,h1,⟨ct,df,fi,h2,h3⟩⟩:=hr.loops l r hl
  have hB:o < w.heap.size:=xi hr (.inr ⟨l,h1⟩)
  have hne:L.blk≠o:=fun e=>by rw [e,h2] at hw0;cases hw0
  exact ⟨o,h1,⟨ct,df,fi,(hold _ hB hne).trans h2,h3.keep keeps (hr.lt.loops l r hl)⟩⟩
 ·exact hr.lt.put hblt hlt
section maps
variable {P:Program} {E:Env} {w:World} {h:Heap}
theorem zaK (hr:HR E w h) {b:Nat} {v:Value} (hv:VR E w (.mp b) v) {es:List (AV × AV)} (hb:h.blk? b=some (.mapb es)) :
  ∃ L ces clock,E.ρ b=some [L]∧v=.map (some L.blk)∧E.F L.blk∧w.heap[L.blk]? = some (.map ces clock)∧es.length=ces.size ∧
   ∀ (i:Nat) (hi:i < es.length) (hj:i < ces.size),VR E w es[i].1 ces[i].key∧VR E w es[i].2 ces[i].val:=by
 obtain ⟨Ls,h1,⟨L,ces,clock,rfl,h3,h4,h5,h6⟩⟩:=hr.maps b es hb
 cases hv with
 | mp _ r hrr =>
  obtain ⟨L',hL',e⟩:=hrr _ h1
  obtain rfl:L'=L:=by simpa using hL'
  exact ⟨L',ces,clock,h1,by rw [e],h3,h4,h5,h6⟩
theorem gaC {r:Nat} {es:Array MapEntry} {clock:Nat} (h:w.heap[r]? = some (.map es clock)):(getObj r).run P w=.ok (.map es clock) w:=by
 simp [getObj,Sem.run,h]
end maps
end
end Go.Abs
