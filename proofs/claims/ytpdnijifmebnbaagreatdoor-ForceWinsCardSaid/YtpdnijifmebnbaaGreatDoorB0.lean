/-
  Steps to a law of this program: AbsVal.
  Conditions: none.
-/
import Derived.Calls
set_option linter.unusedVariables false
set_option linter.unusedSimpArgs false
set_option linter.unusedSectionVars false
namespace Go.Abs
noncomputable section
inductive AV where
 | junk
 | bool (b:Bool)
 | int (k:IntKind) (n:Int)
 | str (s:List UInt8)
 | nilp | nils | nilf | nili | nilm
 | agg (cs:List AV)
 | tup (cs:List AV)
 | vs (es:List (List AV)) (cap:Option Nat)
 | vp (row:List AV) (j:Nat)
 | ptr (b i j:Nat)
 | ms (b i len:Nat) (cap:Option Nat)
 | fn (f:Fn) (first captured:List AV)
 | yld (l:Nat)
 | ifc (t:TypeId) (x:AV)
 | mp (b:Nat)
 | gp (g j:Nat)
 deriving Inhabited
class Gl where
 gl:Nat→Option (List AV)
structure Loc where
 blk:Nat
 off:Nat
 sz:Nat
 n:Nat
 len:Nat
structure Env where
 F:Nat→Prop
 ρ:Nat→Option (List Loc)
 lam:Nat→Option Nat
inductive VR (E:Env) (w:World):AV→Value→Prop where
 | junk (v:Value):VR E w .junk v
 | bool (b:Bool):VR E w (.bool b) (.bool b)
 | int (k:IntKind) (n:Int):VR E w (.int k n) (.int k n)
 | str (s:List UInt8):VR E w (.str s) (.string ⟨s.toArray⟩)
 | nilp:VR E w .nilp (.pointer none)
 | nils:VR E w .nils (.slice none 0 0)
 | nilf:VR E w .nilf .nilFunc
 | nili:VR E w .nili .nilIface
 | nilm:VR E w .nilm (.map none)
 | agg (cs:List AV) (vs:Array Value) (hs:cs.length=vs.size)
   (h:∀ (i:Nat) (hi:i < cs.length) (hj:i < vs.size),VR E w cs[i] vs[i]):VR E w (.agg cs) (.agg vs)
 | tup (cs:List AV) (vs:Array Value) (hs:cs.length=vs.size)
   (h:∀ (i:Nat) (hi:i < cs.length) (hj:i < vs.size),VR E w cs[i] vs[i]):VR E w (.tup cs) (.tuple vs)
 | vs (es:List (List AV)) (capo:Option Nat) (B off cap sz:Nat) (vals:Nat→Nat→Value)
   (hlen:es.length≤cap) (hcap:∀ k,capo=some k→cap=k)
   (hsz:∀ (i:Nat) (hi:i < es.length),es[i].length=sz)
   (hF:∀ (i:Nat) (hi:i < es.length) (j:Nat) (hj:j < es[i].length),¬ E.F B∧w.cell? ⟨B,off + i * sz + j,none⟩=some (vals i j))
   (h:∀ (i:Nat) (hi:i < es.length) (j:Nat) (hj:j < es[i].length),VR E w es[i][j] (vals i j)) :
   VR E w (.vs es capo) (.slice (some ⟨B,off,none⟩) es.length cap)
 | vp (row:List AV) (j:Nat) (B off:Nat) (vals:Nat→Value)
   (hF:∀ (i:Nat) (hi:i < row.length),¬ E.F B∧w.cell? ⟨B,off + i,none⟩=some (vals i))
   (h:∀ (i:Nat) (hi:i < row.length),VR E w row[i] (vals i)) :
   VR E w (.vp row j) (.pointer (some ⟨B,off + j,none⟩))
 | ptr (b i j:Nat) (a:Option Addr)
   (h:∀ Ls,E.ρ b=some Ls→∃ L∈Ls,i < L.len∧j < L.sz∧a=some ⟨L.blk,L.off + i * L.sz + j,none⟩):VR E w (.ptr b i j) (.pointer a)
 | ms (b i len:Nat) (capo:Option Nat) (a:Option Addr) (l c:Nat)
   (h:∀ Ls,E.ρ b=some Ls→∃ L∈Ls,i + len≤L.len∧len≤c∧L.off + (i + c) * L.sz≤L.n∧(∀ k,capo=some k→c=k) ∧
    (∃ k,(c=0∨k=i)∧a=some ⟨L.blk,L.off + k * L.sz,none⟩)∧l=len):VR E w (.ms b i len capo) (.slice a l c)
 | fn (f:Fn) (first captured:List AV) (vf vc:Array Value) (hf:first.length=vf.size) (hc:captured.length=vc.size)
   (h1:∀ (i:Nat) (hi:i < first.length) (hj:i < vf.size),VR E w first[i] vf[i])
   (h2:∀ (i:Nat) (hi:i < captured.length) (hj:i < vc.size),VR E w captured[i] vc[i]):VR E w (.fn f first captured) (.func f vf vc)
 | yld (l:Nat) (f:Fn) (va vc:Array Value) (h:∀ o,E.lam l=some o→f=.yield o∧va = #[]∧vc = #[]):VR E w (.yld l) (.func f va vc)
 | ifc (t:TypeId) (x:AV) (v:Value) (h:VR E w x v):VR E w (.ifc t x) (.iface t v)
 | mp (b:Nat) (r:Option Nat) (h:∀ Ls,E.ρ b=some Ls→∃ L∈Ls,r=some L.blk):VR E w (.mp b) (.map r)
 | gp (g j:Nat):VR E w (.gp g j) (.pointer (some ⟨g,j,none⟩))
inductive Lt (n m:Nat):AV→Prop where
 | junk:Lt n m .junk
 | bool (b):Lt n m (.bool b)
 | int (k x):Lt n m (.int k x)
 | str (s):Lt n m (.str s)
 | nilp:Lt n m .nilp
 | nils:Lt n m .nils
 | nilf:Lt n m .nilf
 | nili:Lt n m .nili
 | nilm:Lt n m .nilm
 | agg (cs:List AV) (h:∀ (i:Nat) (hi:i < cs.length),Lt n m cs[i]):Lt n m (.agg cs)
 | tup (cs:List AV) (h:∀ (i:Nat) (hi:i < cs.length),Lt n m cs[i]):Lt n m (.tup cs)
 | vs (es:List (List AV)) (capo) (h:∀ (i:Nat) (hi:i < es.length) (j:Nat) (hj:j < es[i].length),Lt n m es[i][j]):Lt n m (.vs es capo)
 | vp (row:List AV) (j) (h:∀ (i:Nat) (hi:i < row.length),Lt n m row[i]):Lt n m (.vp row j)
 | ptr (b i j) (h:b < n):Lt n m (.ptr b i j)
 | ms (b i len capo) (h:b < n):Lt n m (.ms b i len capo)
 | fn (f) (first captured:List AV) (h1:∀ (i:Nat) (hi:i < first.length),Lt n m first[i]) (h2:∀ (i:Nat) (hi:i < captured.length),Lt n m captured[i]):Lt n m (.fn f first captured)
 | yld (l) (h:l < m):Lt n m (.yld l)
 | ifc (t) (x:AV) (h:Lt n m x):Lt n m (.ifc t x)
 | mp (b) (h:b < n):Lt n m (.mp b)
 | gp (g j):Lt n m (.gp g j)
abbrev Pure:AV→Prop:=Lt 0 0
theorem Lt.mono {n m n' m':Nat} (hn:n≤n') (hm:m≤m') {x:AV} (h:Lt n m x):Lt n' m' x:=by
 induction h with
 | junk=>exact .junk
 | bool b=>exact .bool b
 | int k x=>exact .int k x
 | str s=>exact .str s
 | nilp=>exact .nilp
 | nils=>exact .nils
 | nilf=>exact .nilf
 | nili=>exact .nili
 | nilm=>exact .nilm
 | agg cs h ih=>exact .agg cs ih
 | tup cs h ih=>exact .tup cs ih
 | vs es c h ih=>exact .vs es c ih
 | vp row j h ih=>exact .vp row j ih
 | ptr b i j h=>exact .ptr b i j (by omega)
 | ms b i l c h=>exact .ms b i l c (by omega)
 | fn f a c h1 h2 ih1 ih2=>exact .fn f a c ih1 ih2
 | yld l h=>exact .yld l (by omega)
 | ifc t x h ih=>exact .ifc t x ih
 | mp b h=>exact .mp b (by omega)
 | gp g j=>exact .gp g j
theorem Pure.lt {x:AV} (h:Pure x) (n m:Nat):Lt n m x:=Lt.mono (Nat.zero_le _) (Nat.zero_le _) h
structure Keeps (n m:Nat) (E:Env) (w:World) (E':Env) (w':World):Prop where
 cells:∀ B o v,¬ E.F B→w.cell? ⟨B,o,none⟩=some v→¬ E'.F B∧w'.cell? ⟨B,o,none⟩=some v
 refs:∀ b,b < n→∀ Ls',E'.ρ b=some Ls'→∃ Ls,E.ρ b=some Ls∧∀ L∈Ls,∃ L'∈Ls',L'.blk=L.blk∧L'.off=L.off∧L'.sz=L.sz∧L'.n=L.n∧L.len≤L'.len
 loops:∀ l,l < m→∀ o,E'.lam l=some o→E.lam l=some o
theorem VR.keep {n m:Nat} {E E':Env} {w w':World} (hk:Keeps n m E w E' w') {x:AV} {v:Value} (h:VR E w x v) (hl:Lt n m x):VR E' w' x v:=by
 induction h with
 | junk v=>exact .junk v
 | bool b=>exact .bool b
 | int k n=>exact .int k n
 | str s=>exact .str s
 | nilp=>exact .nilp
 | nils=>exact .nils
 | nilf=>exact .nilf
 | nili=>exact .nili
 | nilm=>exact .nilm
 | agg cs vs hs h ih=>cases hl with | agg _ hl=>exact .agg cs vs hs fun i hi hj=>ih i hi hj (hl i hi)
 | tup cs vs hs h ih=>cases hl with | tup _ hl=>exact .tup cs vs hs fun i hi hj=>ih i hi hj (hl i hi)
 | vs es capo B off cap sz vals hlen hcap hsz hF h ih =>
  cases hl with
  | vs _ _ hl =>
   exact .vs es capo B off cap sz vals hlen hcap hsz (fun i hi j hj=>hk.cells _ _ _ (hF i hi j hj).1 (hF i hi j hj).2) fun i hi j hj=>ih i hi j hj (hl i hi j hj)
 | vp row j B off vals hF h ih =>
  cases hl with
  | vp _ _ hl=>exact .vp row j B off vals (fun i hi=>hk.cells _ _ _ (hF i hi).1 (hF i hi).2) fun i hi=>ih i hi (hl i hi)
 | ptr b i j a h =>
  cases hl with
  | ptr _ _ _ hl =>
   refine .ptr b i j a fun Ls' hLs' => ?_
   obtain ⟨Ls,hLs,hm⟩:=hk.refs b hl Ls' hLs'
   obtain ⟨L,hL,h1,h2,h3⟩:=h Ls hLs
   obtain ⟨L',hL',e1,e2,e3,e4,e5⟩:=hm L hL
   exact ⟨L',hL',by omega,by omega,by rw [e1,e2,e3];exact h3⟩
 | ms b i len capo a l c h =>
  cases hl with
  | ms _ _ _ _ hl =>
   refine .ms b i len capo a l c fun Ls' hLs' => ?_
   obtain ⟨Ls,hLs,hm⟩:=hk.refs b hl Ls' hLs'
   obtain ⟨L,hL,h1,h2,h3,h4,h5,h6⟩:=h Ls hLs
   obtain ⟨L',hL',e1,e2,e3,e4,e5⟩:=hm L hL
   exact ⟨L',hL',by omega,h2,by rw [e2,e3,e4];exact h3,h4,h5.imp fun k hk=>⟨hk.1,by rw [e1,e2,e3];exact hk.2⟩,h6⟩
 | fn f a c vf vc hf hc h1 h2 ih1 ih2 =>
  cases hl with
  | fn _ _ _ l1 l2=>exact .fn f a c vf vc hf hc (fun i hi hj=>ih1 i hi hj (l1 i hi)) fun i hi hj=>ih2 i hi hj (l2 i hi)
 | yld l f a c h=>cases hl with | yld _ hl=>exact .yld l f a c fun o ho=>h o (hk.loops l hl o ho)
 | ifc t x v h ih=>cases hl with | ifc _ _ hl=>exact .ifc t x v (ih hl)
 | gp g j=>exact .gp g j
 | mp b r h =>
  cases hl with
  | mp _ hl =>
   refine .mp b r fun Ls' hLs' => ?_
   obtain ⟨Ls,hLs,hm⟩:=hk.refs b hl Ls' hLs'
   obtain ⟨L,hL,h1⟩:=h Ls hLs
   obtain ⟨L',hL',e1,_⟩:=hm L hL
   exact ⟨L',hL',by rw [e1];exact h1⟩
theorem Keeps.refl (n m:Nat) (E:Env) (w:World):Keeps n m E w E w :=
 ⟨fun _ _ _ h h'=>⟨h,h'⟩,fun _ _ Ls h=>⟨Ls,h,fun L hL=>⟨L,hL,rfl,rfl,rfl,rfl,Nat.le_refl _⟩⟩,fun _ _ _ h=>h⟩
theorem Keeps.trans {n m n' m':Nat} {E1 E2 E3:Env} {w1 w2 w3:World} (hn:n≤n') (hm:m≤m') (a:Keeps n m E1 w1 E2 w2) (b:Keeps n' m' E2 w2 E3 w3):Keeps n m E1 w1 E3 w3:=by
 refine ⟨fun B o v h h'=>let ⟨x,y⟩:=a.cells B o v h h';b.cells B o v x y,fun i hi Ls' h => ?_,fun l hl o h=>a.loops l hl o (b.loops l (by omega) o h)⟩
 obtain ⟨Ls,h1,h2⟩:=b.refs i (by omega) Ls' h
 obtain ⟨Ls0,h3,h4⟩:=a.refs i hi Ls h1
 refine ⟨Ls0,h3,fun L hL => ?_⟩
 obtain ⟨L',hL',a1,a2,a3,a4,a5⟩:=h4 L hL
 obtain ⟨L'',hL'',b1,b2,b3,b4,b5⟩:=h2 L' hL'
 exact ⟨L'',hL'',by omega,by omega,by omega,by omega,by omega⟩
end
end Go.Abs
