/-
  Steps to a law of this program: AbsOps2, AbsFresh, AbsFrz, AbsEmbed.
  Conditions: none.
-/
import Derived.Test.YtpdnijifmebnbaaGreatDoorB2
import Derived.Test.YtpdnijifmebnbaaGreatDoorB1
set_option linter.unusedVariables false
set_option linter.unusedSimpArgs false
set_option linter.unusedSectionVars false
namespace Go.Abs
noncomputable section
variable [Gl]
omit [Gl] in
theorem vbw (bs:ByteArray):bs.data.toList.length=bs.size:=Array.length_toList
theorem ga0 (bs:ByteArray):∀ (n i:Nat) (r:List UInt8),bs.size - i=n→ByteArray.toList.loop bs i r=r.reverse ++ bs.data.toList.drop i
 | 0,i,r,h=>by
  rw [ByteArray.toList.loop,if_neg (by omega)]
  have:bs.data.toList.drop i=[]:=List.drop_eq_nil_of_le (by rw [vbw];omega)
  rw [this,List.append_nil]
 | n + 1,i,r,h=>by
  have hi:i < bs.size:=by omega
  have hi':i < bs.data.toList.length:=by rw [vbw];exact hi
  have hi'':i < bs.data.size:=hi
  rw [ByteArray.toList.loop,if_pos hi,ga0 bs n (i + 1) _ (by omega),List.reverse_cons,List.append_assoc,List.singleton_append,List.drop_eq_getElem_cons hi']
  congr 2
  show bs.data[i]! = bs.data.toList[i]
  rw [getElem!_pos bs.data i hi'',Array.getElem_toList]
theorem vbD (bs:ByteArray):bs.toList=bs.data.toList:=by
 unfold ByteArray.toList
 rw [ga0 bs bs.size 0 [] (by omega)]
 rfl
theorem yaz (s:List UInt8):(⟨s.toArray⟩:ByteArray).toList=s:=by rw [vbD]
omit [Gl] in
theorem wV (s:List UInt8):(⟨s.toArray⟩:ByteArray).size=s.length:=List.size_toArray
section ops
variable {P:Program} {T:Tab} {h:Heap} {E:Env} {w:World} {K:AV→Heap→Prop}
theorem wH {b i len:Nat} {capo:Option Nat} {v:Value} (hr:HR E w h) (hv:VR E w (.ms b i len capo) v) {rs:List (List AV)} {g fz:Bool} (hb:h.blk? b=some (.rows rs g fz)) :
  ∃ Ls L c,E.ρ b=some Ls∧L∈Ls∧RowsAt E w Ls rs g fz∧i + len≤L.len∧len≤c∧L.off + (i + c) * L.sz≤L.n∧(∀ k,capo=some k→c=k)∧∃ k,(c=0∨k=i)∧v=.slice (some ⟨L.blk,L.off + k * L.sz,none⟩) len c:=by
 cases hv with
 | ms _ _ _ _ a l c hv =>
  obtain ⟨Ls,h1,h2⟩:=hr.rows b rs g fz hb
  obtain ⟨L,hL,h3,h4,h5,h6,⟨k,hk,rfl⟩,rfl⟩:=hv Ls h1
  exact ⟨Ls,L,c,h1,hL,h2,h3,h4,h5,h6,k,hk,rfl⟩
theorem xbe {b i len:Nat} {capo:Option Nat} {v:Value} (hr:HR E w h) (hv:VR E w (.ms b i len capo) v) {rs:List (List AV)} {g fz:Bool} (hb:h.blk? b=some (.rows rs g fz)) (hp:0 < len) :
  ∃ Ls L c,E.ρ b=some Ls∧L∈Ls∧RowsAt E w Ls rs g fz∧i + len≤L.len∧len≤c∧L.off + (i + c) * L.sz≤L.n∧(∀ k,capo=some k→c=k)∧v=.slice (some ⟨L.blk,L.off + i * L.sz,none⟩) len c:=by
 obtain ⟨Ls,L,c,h1,hL,h2,h3,h4,h5,h6,k,hk,h7⟩:=wH hr hv hb
 obtain rfl:k=i:=by omega
 exact ⟨Ls,L,c,h1,hL,h2,h3,h4,h5,h6,h7⟩
theorem jbT (hT:wc P T) (hr:HR E w h) {t:TypeId} {g j:Nat} {ix:AV} {vx vi:Value} (hv:VR E w (.gp g j) vx) (hvi:VR E w ix vi)
  (hx:var T t g j ix (fun r=>K r h)):VOK P h E w (Instr.indexAt t vx vi) K:=by
 unfold var at hx
 split at hx
 ·rename_i ti k i ht
  cases hvi
  split at hx
  ·rename_i n e hd
   split at hx
   ·exact hx.elim
   ·rename_i ei hei
    obtain ⟨⟨hi0,hi1⟩,hk⟩:=hx
    cases hv
    refine .val hr (v:=.pointer (some ⟨g,j + i.toNat * ei.size,none⟩)) ?_ (.gp _ _) (.gp _ _) hk
    simp [Instr.indexAt,asIntOf,jf hT ht,hd,Instr.sureAddr,zq hT hei,hi0,hi1,Addr.add_none]
  ·exact hx.elim
 ·exact hx.elim
theorem ubT (hT:wc P T) (hr:HR E w h) {t:TypeId} {x ix:AV} {vx vi:Value} (hv:VR E w x vx) (hvi:VR E w ix vi) (hl:Lt h.blks.length h.loops.length x)
  (hx:jH T h t x ix (fun r=>K r h)):VOK P h E w (Instr.indexAt t vx vi) K:=by
 unfold jH at hx
 split at hx
 ·rename_i ti k i ht
  cases hvi
  split at hx
  ·rename_i e b s len capo hd
   split at hx
   ·exact hx.elim
   ·rename_i ei hei
    obtain ⟨⟨hi0,hi1⟩,hsz,hblk,hk⟩:=hx
    split at hblk
    ·rename_i rs g fz hb
     obtain ⟨row,hrow,hrl⟩:=hblk
     obtain ⟨Ls,L,c,h1,hL,h2,h3,h4,h5,h6,rfl⟩:=xbe hr hv hb (by omega)
     obtain ⟨hsi,rfl⟩:=List.getElem?_eq_some_iff.1 hrow
     have hLsz:L.sz=ei.size:=by rw [← (h2.all L hL).sz _ hsi];exact hrl
     refine .val hr (v:=.pointer (some ⟨L.blk,L.off + (s + i.toNat) * L.sz + 0,none⟩)) ?_ (.ptr _ _ _ _ fun Ls' hLs' => ?_) (by cases hl with | ms _ _ _ _ hl=>exact .ptr _ _ _ hl) hk
     ·have e:L.off + (s + i.toNat) * L.sz + 0=L.off + s * L.sz + i.toNat * ei.size:=by rw [hLsz,Nat.add_mul];omega
      rw [e]
      simp [Instr.indexAt,asIntOf,jf hT ht,hd,zq hT hei,hi0,hi1,Addr.add_none]
     ·rw [h1] at hLs';injection hLs' with hLs';subst hLs'
      exact ⟨L,hL,by omega,by omega,rfl⟩
    ·exact hblk.elim
  ·rename_i e es capo hd
   split at hx
   ·exact hx.elim
   ·rename_i ei hei
    obtain ⟨⟨hi0,hi1⟩,row,hrow,hrl,hk⟩:=hx
    cases hv with
    | vs _ _ B off cap sz vals hlen hcap hsz hF hh =>
     obtain ⟨hii,rfl⟩:=List.getElem?_eq_some_iff.1 hrow
     have hse:sz=ei.size:=(hsz _ hii).symm.trans hrl
     refine .val hr (v:=.pointer (some ⟨B,(off + i.toNat * sz) + 0,none⟩)) ?_ (.vp _ 0 B (off + i.toNat * sz) (vals i.toNat) (fun t ht' => ?_) (fun t ht'=>hh _ hii _ ht')) ?_ hk
     ·rw [Nat.add_zero,hse]
      simp [Instr.indexAt,asIntOf,jf hT ht,hd,zq hT hei,hi0,hi1,Addr.add_none]
     ·exact hF _ hii _ ht'
     ·cases hl with | vs _ _ hl=>exact .vp _ _ fun t ht'=>hl _ hii _ ht'
  ·rename_i n e b r j hd
   split at hx
   ·exact hx.elim
   ·rename_i ei hei
    obtain ⟨⟨hi0,hi1⟩,hblk,hk⟩:=hx
    split at hblk
    ·rename_i rs g fz hb
     split at hblk
     ·rename_i row hrow
      cases hv with
      | ptr _ _ _ a hv =>
       obtain ⟨Ls,h1,h2⟩:=hr.rows b rs g fz hb
       obtain ⟨L,hL,h3,h4,rfl⟩:=hv Ls h1
       obtain ⟨hri,rfl⟩:=List.getElem?_eq_some_iff.1 hrow
       refine .val hr (v:=.pointer (some ⟨L.blk,L.off + r * L.sz + j + i.toNat * ei.size,none⟩)) ?_ (.ptr _ _ _ _ fun Ls' hLs' => ?_) (by cases hl with | ptr _ _ _ hl=>exact .ptr _ _ _ hl) hk
       ·simp [Instr.indexAt,asIntOf,jf hT ht,hd,Instr.sureAddr,zq hT hei,hi0,hi1,Addr.add_none]
       ·rw [h1] at hLs';injection hLs' with hLs';subst hLs'
        exact ⟨L,hL,h3,by rw [← (h2.all L hL).sz _ hri];exact hblk,by rw [Nat.add_assoc]⟩
     ·exact hblk.elim
    ·exact hblk.elim
  ·rename_i n e row j hd
   split at hx
   ·exact hx.elim
   ·rename_i ei hei
    obtain ⟨⟨hi0,hi1⟩,hk⟩:=hx
    cases hv with
    | vp _ _ B off vals hF hh =>
     refine .val hr (v:=.pointer (some ⟨B,off + (j + i.toNat * ei.size),none⟩)) ?_ (.vp row _ B off vals hF hh) (by cases hl with | vp _ _ hl=>exact .vp _ _ hl) hk
     rw [← Nat.add_assoc]
     simp [Instr.indexAt,asIntOf,jf hT ht,hd,Instr.sureAddr,zq hT hei,hi0,hi1,Addr.add_none]
  ·exact hx.elim
 ·exact hx.elim
theorem qbT (hT:wc P T) (hr:HR E w h) {t:TypeId} {x ix:AV} {vx vi:Value} (hv:VR E w x vx) (hvi:VR E w ix vi) (hl:Lt h.blks.length h.loops.length x)
  (hx:yD T h t x ix (fun r=>K r h)):VOK P h E w (Instr.indexAt t vx vi) K:=by
 unfold yD at hx
 split at hx
 ·exact jbT hT hr hv hvi hx
 ·exact ubT hT hr hv hvi hl hx
theorem gbT (hT:wc P T) (hr:HR E w h) {t:TypeId} {x ix:AV} {vx vi:Value} (hv:VR E w x vx) (hvi:VR E w ix vi) (hl:Lt h.blks.length h.loops.length x)
  (hx:xR T t x ix (fun r=>K r h)):VOK P h E w (Instr.index t vx vi) K:=by
 unfold xR at hx
 split at hx
 ·rename_i ti k i ht
  cases hvi
  split at hx
  ·rename_i n e cs hd
   split at hx
   ·exact hx.elim
   ·rename_i ei hei
    obtain ⟨⟨hi0,hi1⟩,r,hp,hk⟩:=hx
    cases hv with
    | agg _ vs hs hv =>
     obtain ⟨v',h1,h2⟩:=zX hT hei hs hv hp
     refine .val hr (v:=v') (r:=r) ?_ h2 (jM hp fun y hy => ?_) hk
     ·simp [Instr.index,asIntOf,jf hT ht,hd,zq hT hei,hi0,hi1,h1]
     ·cases hl with | agg _ hl=>obtain ⟨i,hi,rfl⟩:=List.getElem_of_mem hy;exact hl i hi
  ·rename_i s hd
   obtain ⟨hi0,c,hc,hk⟩:=hx
   cases hv
   refine .val hr (v:=.int .u8 c.toNat) ?_ (.int _ _) (.int _ _) hk
   have e:(⟨s.toArray⟩:ByteArray)[i.toNat]? = some c:=by
    obtain ⟨hlt,rfl⟩:=List.getElem?_eq_some_iff.1 hc
    have hsz:i.toNat < (⟨s.toArray⟩:ByteArray).size:=by rw [wV];exact hlt
    have:=getElem?_pos (⟨s.toArray⟩:ByteArray) i.toNat hsz
    rw [this]
    rfl
   simp [Instr.index,asIntOf,jf hT ht,hd,hi0,e]
  ·exact hx.elim
 ·exact hx.elim
theorem wbT (hT:wc P T) (hr:HR E w h) {t:TypeId} {x:AV} {v:Value} {ty:TypeId} (hv:VR E w x v) 
  (hx:gC T h t x (fun r=>K r h)):VOK P h E w (Builtin.len_ #[t] ty #[v]) K:=by
 unfold gC at hx
 split at hx
 ·exact hx.elim
 ·rename_i ti ht
  split at hx
  ·rename_i s hd
   cases hv
   exact .val hr (v:=.int .i64 s.length) (by simp [Builtin.len_,jf hT ht,hd,goInt,wV]) (.int _ _) (.int _ _) hx
  ·rename_i n e hd
   exact .val hr (v:=.int .i64 n) (by show Sem.run P (underlying t >>= _) w=_;rw [Sem.run_bind,jf hT ht,Result.andThen_ok,hd];rfl) (.int _ _) (.int _ _) hx
  ·rename_i e es capo hd
   cases hv
   exact .val hr (v:=.int .i64 es.length) (by simp [Builtin.len_,jf hT ht,hd,goInt]) (.int _ _) (.int _ _) hx
  ·rename_i e b i len capo hd
   split at hx
   rotate_left
   ·exact hx.elim
   rename_i rs g fz hb
   obtain ⟨Ls,L,c,h1,hL,h2,h3,h4,h5,h6,_,_,rfl⟩:=wH hr hv hb
   exact .val hr (v:=.int .i64 len) (by simp [Builtin.len_,jf hT ht,hd,goInt]) (.int _ _) (.int _ _) hx
  ·rename_i e hd
   cases hv
   exact .val hr (v:=.int .i64 0) (by simp [Builtin.len_,jf hT ht,hd,goInt]) (.int _ _) (.int _ _) hx
  ·rename_i key el b hd
   split at hx
   rotate_left
   ·exact hx.elim
   rename_i es hbl
   obtain ⟨L,ces,clock,e1,rfl,e2,e3,e4,e5⟩:=zaK hr hv hbl
   exact .val hr (v:=.int .i64 es.length) (by simp [Builtin.len_,jf hT ht,hd,goInt,gaC e3,e4]) (.int _ _) (.int _ _) hx
  ·exact hx.elim
theorem ybS {op:UnOp} (hr:HR E w h) {x r:AV} {v:Value} (hv:VR E w x v) (hx:unA op x=some r) (hk:K r h):VOK P h E w (Op.unary op v) K:=by
 unfold unA at hx
 split at hx
 ·injection hx with hx;subst hx
  cases hv
  exact .val hr (by simp [Op.unary,Op.intArith]) (.int _ _) (.int _ _) hk
 ·injection hx with hx;subst hx
  cases hv
  exact .val hr (by simp [Op.unary,Op.intBits]) (.int _ _) (.int _ _) hk
 ·injection hx with hx;subst hx
  cases hv
  exact .val hr (by simp [Op.unary]) (.bool _) (.bool _) hk
 ·cases hx
theorem xbU (hr:HR E w h) {x:AV} {v:Value} {i:Nat} {cs:List AV} {r:AV} (hv:VR E w (.tup cs) v) (hl:Lt h.blks.length h.loops.length (.tup cs)) (hx:cs[i]? = some r) (hk:K r h) :
  VOK P h E w (Instr.extract v i) K:=by
 cases hv with
 | tup _ vs hs hv =>
  obtain ⟨hi,rfl⟩:=List.getElem?_eq_some_iff.1 hx
  refine .val hr (v:=vs[i]'(hs ▸ hi)) ?_ (hv i hi (hs ▸ hi)) (by cases hl with | tup _ hl=>exact hl i hi) hk
  simp [Instr.extract,Array.getElem?_eq_getElem (hs ▸ hi)]
theorem VOK.bool {b:Bool} {s:Sem Value} (hr:HR E w h) (hs:s.run P w=.ok (.bool b) w) (hk:K (.bool b) h):VOK P h E w s K:=.val hr hs (.bool _) (.bool _) hk
theorem VOK.int {k:IntKind} {n:Int} {s:Sem Value} (hr:HR E w h) (hs:s.run P w=.ok (.int k n) w) (hk:K (.int k n) h):VOK P h E w s K:=.val hr hs (.int _ _) (.int _ _) hk
theorem vbT {op:BinOp} {k:IntKind} {a b:Int} {t:TypeId} {r:AV} (hr:HR E w h) (hx:yw op k a b=some r) (hk:K r h):VOK P h E w (binOp op t (.int k a) (.int k b)) K:=by
 cases op <;> simp only [yw] at hx <;> first | (cases hx;done) | skip
 all_goals injection hx with hx;subst hx
 all_goals first
  | exact .int hr (by simp [binOp,Op.intArith,Op.intBits]) hk
  | exact .bool hr (by simp [binOp,Op.intCmp]) hk
end ops
end
end Go.Abs

namespace Go.Abs
noncomputable section
variable [Gl]
inductive FrzN (h:Heap):AV→AV→Prop where
 | plain (x:AV) (hp:Plain x):FrzN h x x
 | agg (cs ds:List AV) (hl:cs.length=ds.length) (hh:∀ (i:Nat) (hi:i < cs.length) (hj:i < ds.length),FrzN h cs[i] ds[i]):FrzN h (.agg cs) (.agg ds)
 | tup (cs ds:List AV) (hl:cs.length=ds.length) (hh:∀ (i:Nat) (hi:i < cs.length) (hj:i < ds.length),FrzN h cs[i] ds[i]):FrzN h (.tup cs) (.tup ds)
 | ms (b i len:Nat) (capo:Option Nat) (rs:List (List AV)) (g fz:Bool) (es:List (List AV)) (hb:h.blk? b=some (.rows rs g fz)) (hl:es.length=len) (hi:i + len≤rs.length)
   (hs:∀ (t:Nat) (ht:t < es.length) (hr:i + t < rs.length),es[t].length=rs[i + t].length)
   (hh:∀ (t:Nat) (ht:t < es.length) (hr:i + t < rs.length) (j:Nat) (h1:j < es[t].length) (h2:j < rs[i + t].length),FrzN h rs[i + t][j] es[t][j]) :
   FrzN h (.ms b i len capo) (.vs es capo)
theorem FrzN.VR {E:Env} {w:World} {h:Heap} {F:Nat→Prop} (hr:HR E w h) (hfoot:∀ b Ls L,E.ρ b=some Ls→L∈Ls→¬ F L.blk)
  {x y:AV} (hf:FrzN h x y):∀ v,Abs.VR E w x v→Abs.VR (qf F) w y v:=by
 induction hf with
 | plain x hp=>exact fun v hv=>hp.VR v hv
 | agg cs ds hl hh ih =>
  intro v hv
  cases hv with
  | agg _ vs hs hv=>exact .agg ds vs (hl ▸ hs) fun i hi hj=>ih i (hl ▸ hi) hi _ (hv i (hl ▸ hi) hj)
 | tup cs ds hl hh ih =>
  intro v hv
  cases hv with
  | tup _ vs hs hv=>exact .tup ds vs (hl ▸ hs) fun i hi hj=>ih i (hl ▸ hi) hi _ (hv i (hl ▸ hi) hj)
 | ms b i len capo rs g fz es hb hl hi hs hh ih =>
  intro v hv
  cases hv with
  | ms _ _ _ _ a l c hv =>
   obtain ⟨Ls,h1,h2⟩:=hr.rows b rs g fz hb
   obtain ⟨L,hL,h3,h4,h5,h6,⟨k0,hk0,rfl⟩,rfl⟩:=hv Ls h1
   by_cases hes:es.length=0
   ·subst hl
    obtain rfl:=List.eq_nil_of_length_eq_zero hes
    exact .vs [] capo L.blk (L.off + k0 * L.sz) c L.sz (fun _ _=>undef) (by simp) h6 (fun t ht=>by simp at ht) (fun t ht=>by simp at ht) (fun t ht=>by simp at ht)
   obtain rfl:i=k0:=by omega
   obtain ⟨arr,el,a1,a2,a3⟩:=(h2.all L hL).lies
   have hsz:∀ (t:Nat) (ht:t < es.length),es[t].length=L.sz:=fun t ht=>(hs t ht (by omega)).trans ((h2.all L hL).sz _ _)
   subst hl
   have cell:∀ (t:Nat) (ht:t < es.length) (j:Nat) (hj:j < es[t].length),∃ v,arr[L.off + (i + t) * L.sz + j]? = some v∧Abs.VR E w ((rs[i + t]'(by omega))[j]'(by rw [← hs t ht (by omega)];exact hj)) v:=fun t ht j hj=>by
    obtain ⟨v,b1,b2,_⟩:=a3 (i + t) (by omega) (by omega) j (by rw [← hs t ht (by omega)];exact hj)
    exact ⟨v,b1,b2⟩
   refine .vs es capo L.blk (L.off + i * L.sz) c L.sz (fun t j=>(arr[L.off + (i + t) * L.sz + j]?).getD undef) h4 h6 hsz (fun t ht j hj => ?_) (fun t ht j hj => ?_)
   ·obtain ⟨v,b1,_⟩:=cell t ht j hj
    refine ⟨hfoot b Ls L h1 hL,?_⟩
    have e:L.off + i * L.sz + t * L.sz + j=L.off + (i + t) * L.sz + j:=by rw [Nat.add_mul];omega
    simp only [World.cell?,a1,e,b1,Option.getD_some]
    rfl
   ·obtain ⟨v,b1,b2⟩:=cell t ht j hj
    have:=ih t ht (by omega) j hj (by rw [← hs t ht (by omega)];exact hj) v b2
    simpa only [b1,Option.getD_some] using this
structure FreshSem (P:Program) (f:FuncId) (args:List AV) (r:AV):Prop where
 ok:uT P f
 pure:Pure r
 run:∀ (F:Nat→Prop) (w:World) (vs:Array Value),(∀ B,F B→B < w.heap.size)→GlobOK (qf F) w→TR (qf F) w args vs→∀ cs:List Frame,
  ∃ v w' fr,VR (qf fun B=>B < w.heap.size) w' r v∧Grows w w'∧Steps P (lone (Frame.enter P f vs .normal) cs w) (lone fr cs w')∧fr.fn=f∧fr.leaving P w' (.returned v)
theorem FreshSem.toPure {P:Program} {f:FuncId} {args:List AV} {r:AV} (h:FreshSem P f args r):zb P f args r :=
 ⟨h.ok,h.pure,fun F w vs hF hg ht cs=>by
  obtain ⟨v,w',fr,s1,s2⟩:=h.run F w vs hF hg ht cs
  exact ⟨v,w',fr,s1.keep (zR fun B o v a b=>⟨fun hFB=>a (hF B hFB),b⟩) h.pure,s2⟩⟩
theorem jb6 {P:Program} {f:FuncId} {args:List AV} {r:AV} (ha:∀ x∈args,Pure x) (hr:Pure r)
  (h:CallSem P f args ⟨[],[]⟩ (fun r' h'=>FrzN h' r' r)):FreshSem P f args r :=
 ⟨h.ok,hr,fun F w vs hF hg ht cs=>by
  obtain ⟨r',h',E',w',v,fr,hk,s1,s2,s3,s4,s5,s6,s7,s8,s9⟩:=h.run (qf F) w vs (wbl hF hg) ht ha cs
  refine ⟨v,w',fr,?_,⟨s6.size,s6.os,s6.output,s6.tape,fun B hB=>s6.same B hB qZ⟩,s7,s8,s9⟩
  exact FrzN.VR s2 (fun b Ls L h1 h2 hB=>qZ (s6.foot' L.blk hB (.inl ⟨b,Ls,L,h1,h2,rfl⟩))) hk v s1⟩
theorem qbu {P:Program} {f:FuncId} {args args':List AV} {r:AV} {h:Heap} {K:AV→Heap→Prop} (ha:args.length=args'.length)
  (hz:∀ (i:Nat) (hi:i < args.length) (hj:i < args'.length),Frz h args[i] args'[i]) (hp:FreshSem P f args' r) (hk:K r h):CallSem P f args h K :=
 ⟨hp.ok,fun E w vs h1 h2 _ cs=>by
  have ht:TR (qf fun _=>False) w args' vs:=⟨ha ▸ h2.size,fun i hi hj=>Frz.VR h1 (fun _ _ _ _ _ h=>h) (fun _ _ _ _ _ h=>h) (hz i (ha ▸ hi) hi) _ (h2.val i (ha ▸ hi) hj)⟩
  obtain ⟨v,w',fr,s1,s2,s3,s4,s5⟩:=hp.run (fun _=>False) w vs (fun _ h=>h.elim) (h1.globs.pen _ fun _ _ h=>h) ht cs
  obtain ⟨x1,x2⟩:=s2.ext h1 h.blks.length h.loops.length
  exact ⟨r,h,E,w',v,fr,hk,s1.keep (zR fun B o v a b=>⟨fun hF=>a (h1.inside B hF),b⟩) hp.pure,x2,hp.pure.lt _ _,Nat.le_refl _,Nat.le_refl _,x1,s3,s4,s5⟩⟩
def KnownSem (P:Program) (f:FuncId) (args:List AV) (r:AV):Prop:=match r with
 | .ifc t x=>if t=999999 then FreshSem P f args x else zb P f args (.ifc t x)
 | r=>zb P f args r
theorem KnownSem.of_pure {P:Program} {f:FuncId} {args:List AV} {r:AV} (h:zb P f args r) (hn:∀ x,r≠.ifc 999999 x):KnownSem P f args r:=by
 unfold KnownSem
 split
 ·rename_i t x
  split
  ·rename_i e;subst e;exact absurd rfl (hn x)
  ·exact h
 ·exact h
def uB:AV→AV × Bool
 | .ifc t x=>match Nat.beq t 999999 with
  | true=>(x,true)
  | false=>(.ifc t x,false)
 | r=>(r,false)
theorem KnownSem.fresh {P:Program} {f:FuncId} {args:List AV} {r x:AV} (h:KnownSem P f args r) (hu:uB r=(x,true)):FreshSem P f args x:=by
 unfold uB at hu
 split at hu
 ·split at hu
  ·rename_i ht
   have ht:=Nat.eq_of_beq_eq_true ht
   injection hu with hu _;subst hu
   unfold KnownSem at h
   simp only [ht,if_true] at h
   exact h
  ·injection hu with _ hu;cases hu
 ·injection hu with _ hu;cases hu
theorem KnownSem.pure {P:Program} {f:FuncId} {args:List AV} {r x:AV} {b:Bool} (h:KnownSem P f args r) (hu:uB r=(x,b)):zb P f args x:=by
 cases b with
 | true=>exact (h.fresh hu).toPure
 | false =>
  unfold uB at hu
  split at hu
  ·split at hu
   ·injection hu with _ hu;cases hu
   ·rename_i ht
    injection hu with hu _;subst hu
    unfold KnownSem at h
    simp only at h
    rw [if_neg (fun e=>by subst e;simp at ht)] at h
    exact h
  ·rename_i hne
   injection hu with hu _;subst hu
   unfold KnownSem at h
   split at h
   ·rename_i t y;exact absurd rfl (hne t y)
   ·exact h
end
end Go.Abs

namespace Go.Abs
noncomputable section
variable [Gl]
inductive FrzT (h:Heap):AV→AV→Prop where
 | pure (x:AV) (hp:Pure x):FrzT h x x
 | agg (cs ds:List AV) (hl:cs.length=ds.length) (hh:∀ (i:Nat) (hi:i < cs.length) (hj:i < ds.length),FrzT h cs[i] ds[i]):FrzT h (.agg cs) (.agg ds)
 | tup (cs ds:List AV) (hl:cs.length=ds.length) (hh:∀ (i:Nat) (hi:i < cs.length) (hj:i < ds.length),FrzT h cs[i] ds[i]):FrzT h (.tup cs) (.tup ds)
 | ms (b i len:Nat) (capo:Option Nat) (rs:List (List AV)) (g:Bool) (es:List (List AV)) (hb:h.blk? b=some (.rows rs g true)) (hl:es.length=len) (hi:i + len≤rs.length)
   (hs:∀ (t:Nat) (ht:t < es.length) (hr:i + t < rs.length),es[t].length=rs[i + t].length)
   (hh:∀ (t:Nat) (ht:t < es.length) (hr:i + t < rs.length) (j:Nat) (h1:j < es[t].length) (h2:j < rs[i + t].length),FrzT h rs[i + t][j] es[t][j]) :
   FrzT h (.ms b i len capo) (.vs es capo)
 | ptr (b i j:Nat) (rs:List (List AV)) (g:Bool) (row:List AV) (hb:h.blk? b=some (.rows rs g true)) (hi:i < rs.length) (hl:row.length=rs[i].length)
   (hh:∀ (t:Nat) (h1:t < row.length) (h2:t < rs[i].length),FrzT h rs[i][t] row[t]):FrzT h (.ptr b i j) (.vp row j)
 | fn (f:Fn) (a c a' c':List AV) (h1:a.length=a'.length) (h2:c.length=c'.length) (hh1:∀ (i:Nat) (hi:i < a.length) (hj:i < a'.length),FrzT h a[i] a'[i])
   (hh2:∀ (i:Nat) (hi:i < c.length) (hj:i < c'.length),FrzT h c[i] c'[i]):FrzT h (.fn f a c) (.fn f a' c')
 | ifc (t:TypeId) (x y:AV) (hh:FrzT h x y):FrzT h (.ifc t x) (.ifc t y)
 | vs (es ds:List (List AV)) (capo:Option Nat) (hl:es.length=ds.length) (hs:∀ (t:Nat) (h1:t < es.length) (h2:t < ds.length),es[t].length=ds[t].length)
   (hh:∀ (t:Nat) (h1:t < es.length) (h2:t < ds.length) (j:Nat) (h3:j < es[t].length) (h4:j < ds[t].length),FrzT h es[t][j] ds[t][j]):FrzT h (.vs es capo) (.vs ds capo)
 | vp (r s:List AV) (j:Nat) (hl:r.length=s.length) (hh:∀ (t:Nat) (h1:t < r.length) (h2:t < s.length),FrzT h r[t] s[t]):FrzT h (.vp r j) (.vp s j)
theorem FrzT.VR {E:Env} {w:World} {h:Heap} (hr:HR E w h) {x y:AV} (hf:FrzT h x y):∀ v,Abs.VR E w x v→Abs.VR (qf E.F) w y v:=by
 induction hf with
 | pure x hp=>exact fun v hv=>hv.keep (zR (E:=E) (E':=qf E.F) (w:=w) (w':=w) fun B o v a b=>⟨a,b⟩) hp
 | agg cs ds hl hh ih =>
  intro v hv
  cases hv with
  | agg _ vs hs hv=>exact .agg ds vs (hl ▸ hs) fun i hi hj=>ih i (hl ▸ hi) hi _ (hv i (hl ▸ hi) hj)
 | tup cs ds hl hh ih =>
  intro v hv
  cases hv with
  | tup _ vs hs hv=>exact .tup ds vs (hl ▸ hs) fun i hi hj=>ih i (hl ▸ hi) hi _ (hv i (hl ▸ hi) hj)
 | ms b i len capo rs g es hb hl hi hs hh ih =>
  intro v hv
  cases hv with
  | ms _ _ _ _ a l c hv =>
   obtain ⟨Ls,h1,h2⟩:=hr.rows b rs g true hb
   obtain ⟨L,hL,h3,h4,h5,h6,⟨k0,hk0,rfl⟩,rfl⟩:=hv Ls h1
   by_cases hes:es.length=0
   ·subst hl
    obtain rfl:=List.eq_nil_of_length_eq_zero hes
    exact .vs [] capo L.blk (L.off + k0 * L.sz) c L.sz (fun _ _=>undef) (by simp) h6 (fun t ht=>by simp at ht) (fun t ht=>by simp at ht) (fun t ht=>by simp at ht)
   obtain rfl:i=k0:=by omega
   obtain ⟨arr,el,a1,a2,a3⟩:=(h2.all L hL).lies
   have hsz:∀ (t:Nat) (ht:t < es.length),es[t].length=L.sz:=fun t ht=>(hs t ht (by omega)).trans ((h2.all L hL).sz _ _)
   subst hl
   have cell:∀ (t:Nat) (ht:t < es.length) (j:Nat) (hj:j < es[t].length),∃ v,arr[L.off + (i + t) * L.sz + j]? = some v∧Abs.VR E w ((rs[i + t]'(by omega))[j]'(by rw [← hs t ht (by omega)];exact hj)) v:=fun t ht j hj=>by
    obtain ⟨v,b1,b2,_⟩:=a3 (i + t) (by omega) (by omega) j (by rw [← hs t ht (by omega)];exact hj)
    exact ⟨v,b1,b2⟩
   refine .vs es capo L.blk (L.off + i * L.sz) c L.sz (fun t j=>(arr[L.off + (i + t) * L.sz + j]?).getD undef) h4 h6 hsz (fun t ht j hj => ?_) (fun t ht j hj => ?_)
   ·obtain ⟨v,b1,_⟩:=cell t ht j hj
    refine ⟨(h2.all L hL).free rfl,?_⟩
    have e:L.off + i * L.sz + t * L.sz + j=L.off + (i + t) * L.sz + j:=by rw [Nat.add_mul];omega
    simp only [World.cell?,a1,e,b1,Option.getD_some]
    rfl
   ·obtain ⟨v,b1,b2⟩:=cell t ht j hj
    have:=ih t ht (by omega) j hj (by rw [← hs t ht (by omega)];exact hj) v b2
    simpa only [b1,Option.getD_some] using this
 | ptr b i j rs g row hb hi hl hh ih =>
  intro v hv
  cases hv with
  | ptr _ _ _ _ hv =>
   obtain ⟨Ls,h1,h2⟩:=hr.rows b rs g true hb
   obtain ⟨L,hL,h3,h4,rfl⟩:=hv Ls h1
   obtain ⟨arr,el,a1,a2,a3⟩:=(h2.all L hL).lies
   have cell:∀ (t:Nat) (ht:t < row.length),∃ v,arr[L.off + i * L.sz + t]? = some v∧Abs.VR E w (rs[i])[t] v:=fun t ht=>by
    obtain ⟨v,b1,b2,_⟩:=a3 i hi h3 t (by omega)
    exact ⟨v,b1,b2⟩
   refine .vp row j L.blk (L.off + i * L.sz) (fun t=>(arr[L.off + i * L.sz + t]?).getD undef) (fun t ht => ?_) (fun t ht => ?_)
   ·obtain ⟨v,b1,_⟩:=cell t ht
    refine ⟨(h2.all L hL).free rfl,?_⟩
    simp only [World.cell?,a1,b1,Option.getD_some]
    rfl
   ·obtain ⟨v,b1,b2⟩:=cell t ht
    have:=ih t ht (by omega) v b2
    simpa only [b1,Option.getD_some] using this
 | fn f a c a' c' h1 h2 hh1 hh2 ih1 ih2 =>
  intro v hv
  cases hv with
  | fn _ _ _ vf vc e1 e2 v1 v2 =>
   exact .fn f a' c' vf vc (h1 ▸ e1) (h2 ▸ e2) (fun i hi hj=>ih1 i (h1 ▸ hi) hi _ (v1 i (h1 ▸ hi) hj)) (fun i hi hj=>ih2 i (h2 ▸ hi) hi _ (v2 i (h2 ▸ hi) hj))
 | ifc t x y hh ih =>
  intro v hv
  cases hv with
  | ifc _ _ v hv=>exact .ifc t y v (ih v hv)
 | vs es ds capo hl hs hh ih =>
  intro v hv
  cases hv with
  | vs _ _ B off cap sz vals a1 a2 a3 a4 a5 =>
   rw [hl]
   refine .vs ds capo B off cap sz vals (hl ▸ a1) a2 (fun t ht=>(hs t (by omega) ht).symm.trans (a3 t (by omega))) (fun t ht j hj => ?_) (fun t ht j hj => ?_)
   ·have e:=hs t (by omega) ht
    obtain ⟨b1,b2⟩:=a4 t (by omega) j (by omega)
    exact ⟨b1,b2⟩
   ·have e:=hs t (by omega) ht
    exact ih t (by omega) ht j (by omega) hj _ (a5 t (by omega) j (by omega))
 | vp r s j hl hh ih =>
  intro v hv
  cases hv with
  | vp _ _ B off vals a1 a2 =>
   refine .vp s j B off vals (fun t ht => ?_) (fun t ht => ?_)
   ·obtain ⟨b1,b2⟩:=a1 t (by omega)
    exact ⟨b1,b2⟩
   ·exact ih t (by omega) ht _ (a2 t (by omega))
theorem vb4 {E:Env} {w:World} {h:Heap} (hr:HR E w h) {b:Nat} {rs:List (List AV)} {g:Bool} (hb:h.blk? b=some (.rows rs g false)) (n m:Nat) :
  ∃ E',HR E' w (h.put b (.rows rs g true))∧Ext n m E w E' w:=by
 obtain ⟨Ls,g1,g2⟩:=hr.rows b rs g false hb
 have hblt:b < h.blks.length:=qA hb
 have own:∀ L∈Ls,E.F L.blk:=fun L hL=>(g2.all L hL).own rfl
 have keeps:∀ n m,Keeps n m E w { E with F:=fun B=>E.F B∧∀ L∈Ls,L.blk≠B } w:=fun n m =>
  ⟨fun B o v hF hc=>⟨fun q=>hF q.1,hc⟩,fun b _ Ls h=>⟨Ls,h,fun L hL=>⟨L,hL,rfl,rfl,rfl,rfl,Nat.le_refl _⟩⟩,fun _ _ _ h=>h⟩
 have x:∀ n m,Ext n m E w { E with F:=fun B=>E.F B∧∀ L∈Ls,L.blk≠B } w:=fun n m =>
  ⟨keeps n m,Nat.le_refl _,rfl,rfl,rfl,fun _ _ _=>rfl,fun B _ hF=>by
   by_cases hB:∃ L∈Ls,L.blk=B
   ·obtain ⟨L,hL,rfl⟩:=hB;exact .inr (.inl ⟨b,Ls,L,g1,hL,rfl⟩)
   ·exact .inl ⟨hF,fun L hL e=>hB ⟨L,hL,e⟩⟩,fun _ _ hf=>hf⟩
 refine ⟨_,?_,x n m⟩
 have blk:∀ c,(h.put b (.rows rs g true)).blk? c=if c=b then some (.rows rs g true) else h.blk? c:=fun c=>gJ h _ b c hblt
 have hlen:(h.put b (.rows rs g true)).blks.length=h.blks.length:=by simp [Heap.put]
 have hll:(h.put b (.rows rs g true)).loops=h.loops:=rfl
 have other:∀ c Lc L',c≠b→E.ρ c=some Lc→L'∈Lc→E.F L'.blk→∀ L∈Ls,L.blk≠L'.blk:=fun c Lc L' hne h1 h2 h3 L hL e=>hr.apart c b Lc Ls L' L hne h1 g1 h2 hL h3 e.symm
 refine ⟨fun c hc => ?_,fun c rs' g' fz hc => ?_,fun c es hc => ?_,fun c c' Lc Lc' L L' hne h1 h2 h3 h4 hF=>hr.apart c c' Lc Lc' L L' hne h1 h2 h3 h4 hF.1,fun l hl=>hr.deadl l hl,fun l r hl => ?_,hr.lapart,⟨fun c y hc => ?_,fun l r hl => ?_⟩,fun B hB=>hr.inside B hB.1,hr.globs.ext (x n m)⟩
 ·rw [blk] at hc
  split at hc
  ·cases hc
  ·exact hr.dead c hc
 ·rw [blk] at hc
  split at hc
  ·rename_i e
   subst e
   injection hc with hc
   injection hc with e1 e2 e3
   subst e1 e2 e3
   refine ⟨Ls,g1,g2.one,g2.now,fun L hL => ?_,g2.apart⟩
   have la:=g2.all L hL
   obtain ⟨arr,el,a1,a2,a3⟩:=la.lies
   refine ⟨⟨arr,el,a1,a2,fun i hi hi' j hj => ?_⟩,la.len,la.fits,la.sz,fun e=>(by cases e),fun _ q=>q.2 L hL rfl⟩
   obtain ⟨v,b1,b2,b3⟩:=a3 i hi hi' j hj
   exact ⟨v,b1,b2.keep (keeps h.blks.length h.loops.length) (hr.lt.blks c _ hb _ (List.getElem_mem hi) _ (List.getElem_mem hj)),b3⟩
  ·rename_i hne
   obtain ⟨Lc,c1,c2⟩:=hr.rows c rs' g' fz hc
   refine ⟨Lc,c1,c2.one,c2.now,fun L hL => ?_,c2.apart⟩
   have la:=c2.all L hL
   obtain ⟨arr,el,a1,a2,a3⟩:=la.lies
   refine ⟨⟨arr,el,a1,a2,fun i hi hi' j hj => ?_⟩,la.len,la.fits,la.sz,fun e=>⟨la.own e,other c Lc L hne c1 hL (la.own e)⟩,fun e q=>la.free e q.1⟩
   obtain ⟨v,b1,b2,b3⟩:=a3 i hi hi' j hj
   exact ⟨v,b1,b2.keep (keeps h.blks.length h.loops.length) (hr.lt.blks c _ hc _ (List.getElem_mem hi) _ (List.getElem_mem hj)),b3⟩
 ·rw [blk] at hc
  split at hc
  ·cases hc
  ·rename_i hne
   obtain ⟨Lc,c1,⟨L,ces,cl,rfl,c3,c4,c5,c6⟩⟩:=hr.maps c es hc
   refine ⟨[L],c1,L,ces,cl,rfl,⟨c3,other c [L] L hne c1 (by simp) c3⟩,c4,c5,fun i hi hj => ?_⟩
   have hl:=hr.lt.blks c _ hc _ (List.getElem_mem hi)
   exact ⟨(c6 i hi hj).1.keep (keeps h.blks.length h.loops.length) hl.1,(c6 i hi hj).2.keep (keeps h.blks.length h.loops.length) hl.2⟩
 ·obtain ⟨o,o1,⟨ct,df,fi,o2,o3⟩⟩:=hr.loops l r hl
  exact ⟨o,o1,ct,df,fi,o2,o3.keep (keeps h.blks.length h.loops.length) (hr.lt.loops l r hl)⟩
 ·rw [blk] at hc
  rw [hlen,hll]
  split at hc
  ·rename_i e
   subst e
   injection hc with hc;subst hc
   have hq:Blk.Lt h.blks.length h.loops.length (.rows rs g false):=hr.lt.blks c _ hb
   exact hq
  ·exact hr.lt.blks c y hc
 ·rw [hlen,hll]
  exact hr.lt.loops l r hl
inductive FrzA (h:Heap):List AV→List AV→Prop where
 | nil:FrzA h [] []
 | cons (x y:AV) (xs ys:List AV) (h1:FrzT h x y) (h2:FrzA h xs ys):FrzA h (x :: xs) (y :: ys)
theorem FrzA.get {h:Heap} {xs ys:List AV} (hz:FrzA h xs ys):xs.length=ys.length∧∀ (i:Nat) (hi:i < xs.length) (hj:i < ys.length),FrzT h xs[i] ys[i]:=by
 induction hz with
 | nil=>exact ⟨rfl,fun i hi=>by simp at hi⟩
 | cons x y xs ys h1 h2 ih =>
  refine ⟨by simp [ih.1],fun i hi hj => ?_⟩
  cases i with
  | zero=>exact h1
  | succ i=>exact ih.2 i (by simpa using hi) (by simpa using hj)
end
end Go.Abs

namespace Go.Abs
noncomputable section
variable [Gl]
structure Emb (σ:Nat→Nat) (n1 n:Nat):Prop where
 lt:∀ b,b < n1→σ b < n
 new:∀ b,n1≤b→σ b=n + (b - n1)
 inj:∀ b c,σ b=σ c→b=c
inductive Ren (σ:Nat→Nat) (m:Nat):AV→AV→Prop where
 | pure (x:AV) (h:Pure x):Ren σ m x x
 | agg (cs ds:List AV) (hl:cs.length=ds.length) (hh:∀ (i:Nat) (hi:i < cs.length) (hj:i < ds.length),Ren σ m cs[i] ds[i]):Ren σ m (.agg cs) (.agg ds)
 | tup (cs ds:List AV) (hl:cs.length=ds.length) (hh:∀ (i:Nat) (hi:i < cs.length) (hj:i < ds.length),Ren σ m cs[i] ds[i]):Ren σ m (.tup cs) (.tup ds)
 | ptr (b i j:Nat):Ren σ m (.ptr b i j) (.ptr (σ b) i j)
 | ms (b i l:Nat) (c:Option Nat):Ren σ m (.ms b i l c) (.ms (σ b) i l c)
 | fn (f:Fn) (a a' c c':List AV) (hl:a.length=a'.length) (hl':c.length=c'.length) (h1:∀ (i:Nat) (hi:i < a.length) (hj:i < a'.length),Ren σ m a[i] a'[i])
   (h2:∀ (i:Nat) (hi:i < c.length) (hj:i < c'.length),Ren σ m c[i] c'[i]):Ren σ m (.fn f a c) (.fn f a' c')
 | ifc (t:TypeId) (x y:AV) (h:Ren σ m x y):Ren σ m (.ifc t x) (.ifc t y)
omit [Gl] in
theorem Ren.lt {σ:Nat→Nat} {m n1' m1' n' m':Nat} (hσ:∀ b,b < n1'→σ b < n') {x y:AV} (h:Ren σ m x y):Lt n1' m1' x→Lt n' m' y:=by
 induction h with
 | pure x hp=>exact fun _=>hp.lt _ _
 | agg cs ds hl hh ih=>intro hx;cases hx with | agg _ hx=>exact .agg _ fun i hi=>ih i (by omega) hi (hx i (by omega))
 | tup cs ds hl hh ih=>intro hx;cases hx with | tup _ hx=>exact .tup _ fun i hi=>ih i (by omega) hi (hx i (by omega))
 | ptr b i j=>intro hx;cases hx with | ptr _ _ _ hx=>exact .ptr _ _ _ (hσ b hx)
 | ms b i l c=>intro hx;cases hx with | ms _ _ _ _ hx=>exact .ms _ _ _ _ (hσ b hx)
 | fn f a a' c c' hl hl' h1 h2 ih1 ih2=>intro hx;cases hx with | fn _ _ _ x1 x2=>exact .fn _ _ _ (fun i hi=>ih1 i (by omega) hi (x1 i (by omega))) fun i hi=>ih2 i (by omega) hi (x2 i (by omega))
 | ifc t x y h ih=>intro hx;cases hx with | ifc _ _ hx=>exact .ifc _ _ (ih hx)
theorem Ren.inn {σ:Nat→Nat} {m:Nat} {E E1:Env} {w:World} (hF:∀ B,E.F B↔E1.F B) (hρ:∀ b Ls,E1.ρ b=some Ls→E.ρ (σ b)=some Ls) {x y:AV} (h:Ren σ m x y):∀ v,VR E w y v→VR E1 w x v:=by
 induction h with
 | pure x hp=>exact fun v hv=>VR.keep (n:=0) (m:=0) ⟨fun B o v hB hc=>⟨fun h=>hB ((hF B).2 h),hc⟩,fun b hb=>by omega,fun l hl=>by omega⟩ hv hp
 | agg cs ds hl hh ih=>intro v hv;cases hv with | agg _ vs hs hv=>exact .agg _ vs (by omega) fun i hi hj=>ih i hi (by omega) _ (hv i (by omega) hj)
 | tup cs ds hl hh ih=>intro v hv;cases hv with | tup _ vs hs hv=>exact .tup _ vs (by omega) fun i hi hj=>ih i hi (by omega) _ (hv i (by omega) hj)
 | ptr b i j=>intro v hv;cases hv with | ptr _ _ _ a hv=>exact .ptr _ _ _ a fun Ls hLs=>hv Ls (hρ b Ls hLs)
 | ms b i l c=>intro v hv;cases hv with | ms _ _ _ _ a l c hv=>exact .ms _ _ _ _ a l c fun Ls hLs=>hv Ls (hρ b Ls hLs)
 | fn f a a' c c' hl hl' h1 h2 ih1 ih2 =>
  intro v hv
  cases hv with
  | fn _ _ _ vf vc e1 e2 v1 v2=>exact .fn _ _ _ vf vc (by omega) (by omega) (fun i hi hj=>ih1 i hi (by omega) _ (v1 i (by omega) hj)) fun i hi hj=>ih2 i hi (by omega) _ (v2 i (by omega) hj)
 | ifc t x y h ih=>intro v hv;cases hv with | ifc _ _ v hv=>exact .ifc _ _ _ (ih v hv)
theorem Ren.out {σ:Nat→Nat} {m n1' m1':Nat} {E' E1':Env} {w:World} (hF:∀ B,E1'.F B↔E'.F B) (hρ:∀ b Ls,b < n1'→E'.ρ (σ b)=some Ls→E1'.ρ b=some Ls) {x y:AV} (h:Ren σ m x y):Lt n1' m1' x→∀ v,VR E1' w x v→VR E' w y v:=by
 induction h with
 | pure x hp=>exact fun _ v hv=>VR.keep (n:=0) (m:=0) ⟨fun B o v hB hc=>⟨fun h=>hB ((hF B).2 h),hc⟩,fun b hb=>by omega,fun l hl=>by omega⟩ hv hp
 | agg cs ds hl hh ih=>intro hx v hv;cases hx with | agg _ hx=>cases hv with | agg _ vs hs hv=>exact .agg _ vs (by omega) fun i hi hj=>ih i (by omega) hi (hx i (by omega)) _ (hv i (by omega) hj)
 | tup cs ds hl hh ih=>intro hx v hv;cases hx with | tup _ hx=>cases hv with | tup _ vs hs hv=>exact .tup _ vs (by omega) fun i hi hj=>ih i (by omega) hi (hx i (by omega)) _ (hv i (by omega) hj)
 | ptr b i j=>intro hx v hv;cases hx with | ptr _ _ _ hx=>cases hv with | ptr _ _ _ a hv=>exact .ptr _ _ _ a fun Ls hLs=>hv Ls (hρ b Ls hx hLs)
 | ms b i l c=>intro hx v hv;cases hx with | ms _ _ _ _ hx=>cases hv with | ms _ _ _ _ a l c hv=>exact .ms _ _ _ _ a l c fun Ls hLs=>hv Ls (hρ b Ls hx hLs)
 | fn f a a' c c' hl hl' h1 h2 ih1 ih2 =>
  intro hx v hv
  cases hx with
  | fn _ _ _ x1 x2 =>
   cases hv with
   | fn _ _ _ vf vc e1 e2 v1 v2 =>
    exact .fn _ _ _ vf vc (by omega) (by omega) (fun i hi hj=>ih1 i (by omega) hi (x1 i (by omega)) _ (v1 i (by omega) hj)) fun i hi hj=>ih2 i (by omega) hi (x2 i (by omega)) _ (v2 i (by omega) hj)
 | ifc t x y h ih=>intro hx v hv;cases hx with | ifc _ _ hx=>cases hv with | ifc _ _ v hv=>exact .ifc _ _ _ (ih hx v hv)
inductive qT (σ:Nat→Nat) (m:Nat):Option Blk→Option Blk→Prop where
 | dead:qT σ m none none
 | rows (rs rs':List (List AV)) (g fz:Bool) (hl:rs.length=rs'.length) (hl':∀ (i:Nat) (hi:i < rs.length) (hj:i < rs'.length),rs[i].length=rs'[i].length)
   (hh:∀ (i:Nat) (hi:i < rs.length) (hj:i < rs'.length) (j:Nat) (h1:j < rs[i].length) (h2:j < rs'[i].length),Ren σ m rs[i][j] rs'[i][j]):qT σ m (some (.rows rs g fz)) (some (.rows rs' g fz))
structure wbz (σ:Nat→Nat) (n1:Nat) (h h1' h':Heap):Prop where
 len:h'.blks.length=h.blks.length + (h1'.blks.length - n1)
 img:∀ b,b < h1'.blks.length→qT σ h.loops.length (h1'.blk? b) (h'.blk? (σ b))
 out:∀ b,b < h.blks.length→(∀ c,c < n1→σ c≠b)→h'.blk? b=h.blk? b
 llen:h.loops.length≤h'.loops.length
 lold:∀ l,l < h.loops.length→h'.loop? l=h.loop? l
 lnew:∀ l,h.loops.length≤l→h'.loop? l=none
theorem RowsAt.out {σ:Nat→Nat} {m n1' m1':Nat} {E' E1':Env} {w:World} (hF:∀ B,E1'.F B↔E'.F B) (hρ:∀ b Ls,b < n1'→E'.ρ (σ b)=some Ls→E1'.ρ b=some Ls) {Ls:List Loc} {rs rs':List (List AV)} {g fz:Bool}
  (hl:rs.length=rs'.length) (hl':∀ (i:Nat) (hi:i < rs.length) (hj:i < rs'.length),rs[i].length=rs'[i].length)
  (hh:∀ (i:Nat) (hi:i < rs.length) (hj:i < rs'.length) (j:Nat) (h1:j < rs[i].length) (h2:j < rs'[i].length),Ren σ m rs[i][j] rs'[i][j])
  (hlt:∀ r∈rs,∀ x∈r,Lt n1' m1' x) (h:RowsAt E1' w Ls rs g fz):RowsAt E' w Ls rs' g fz:=by
 refine ⟨h.one,?_,fun L hL => ?_,h.apart⟩
 ·obtain ⟨L,h1,h2⟩:=h.now;exact ⟨L,h1,by omega⟩
 ·have la:=h.all L hL
  obtain ⟨arr,el,a1,a2,a3⟩:=la.lies
  refine ⟨⟨arr,el,a1,a2,fun i hi hi' j hj => ?_⟩,by have:=la.len;omega,la.fits,fun i hi=>by rw [← hl' i (by omega) hi];exact la.sz i (by omega),fun e=>(hF _).1 (la.own e),fun e he=>la.free e ((hF _).2 he)⟩
  obtain ⟨v,b1,b2,b3⟩:=a3 i (by omega) hi' j (by rw [hl' i (by omega) hi];exact hj)
  exact ⟨v,b1,(hh i (by omega) hi j _ hj).out hF hρ (hlt _ (List.getElem_mem _) _ (List.getElem_mem _)) v b2,b3⟩
theorem RowsAt.inn {σ:Nat→Nat} {m:Nat} {E E1:Env} {w:World} (hF:∀ B,E.F B↔E1.F B) (hρ:∀ b Ls,E1.ρ b=some Ls→E.ρ (σ b)=some Ls) {Ls:List Loc} {rs rs':List (List AV)} {g fz:Bool}
  (hl:rs.length=rs'.length) (hl':∀ (i:Nat) (hi:i < rs.length) (hj:i < rs'.length),rs[i].length=rs'[i].length)
  (hh:∀ (i:Nat) (hi:i < rs.length) (hj:i < rs'.length) (j:Nat) (h1:j < rs[i].length) (h2:j < rs'[i].length),Ren σ m rs[i][j] rs'[i][j])
  (h:RowsAt E w Ls rs' g fz):RowsAt E1 w Ls rs g fz:=by
 refine ⟨h.one,?_,fun L hL => ?_,h.apart⟩
 ·obtain ⟨L,h1,h2⟩:=h.now;exact ⟨L,h1,by omega⟩
 ·have la:=h.all L hL
  obtain ⟨arr,el,a1,a2,a3⟩:=la.lies
  refine ⟨⟨arr,el,a1,a2,fun i hi hi' j hj => ?_⟩,by have:=la.len;omega,la.fits,fun i hi=>by rw [hl' i hi (by omega)];exact la.sz i (by omega),fun e=>(hF _).1 (la.own e),fun e he=>la.free e ((hF _).2 he)⟩
  obtain ⟨v,b1,b2,b3⟩:=a3 i (by omega) hi' j (by rw [← hl' i hi (by omega)];exact hj)
  exact ⟨v,b1,(hh i hi (by omega) j hj _).inn hF hρ v b2,b3⟩
section embed
variable {P:Program} {σ:Nat→Nat} {n1:Nat} {h h1:Heap}
structure qaY (σ:Nat→Nat) (n1:Nat) (h h1:Heap):Prop where
 emb:Emb σ n1 h.blks.length
 len:h1.blks.length=n1
 loops:h1.loops=[]
 lt:h1.Lt
 img:∀ b,b < n1→qT σ h.loops.length (h1.blk? b) (h.blk? (σ b))
 free:∀ b rs g fz,(∀ c,c < n1→σ c≠b)→h.blk? b=some (.rows rs g fz)→fz=false
def Env.small (E:Env) (σ:Nat→Nat) (n1:Nat):Env:={ F:=E.F,ρ:=fun b=>if b < n1 then E.ρ (σ b) else none,lam:=fun _=>none }
omit [Gl] in
theorem vbg {h1:Heap} (hl:h1.loops=[]) (l:Nat):h1.loop? l=none:=by simp [Heap.loop?,hl]
theorem qbH (bs:qaY σ n1 h h1) {E:Env} {w:World} (hr:HR E w h):HR (E.small σ n1) w h1:=by
 have hρ:∀ b Ls,(E.small σ n1).ρ b=some Ls→b < n1∧E.ρ (σ b)=some Ls:=fun b Ls hb=>by
  simp only [Env.small] at hb
  split at hb
  ·exact ⟨‹_›,hb⟩
  ·cases hb
 have hρ':∀ b Ls,(E.small σ n1).ρ b=some Ls→E.ρ (σ b)=some Ls:=fun b Ls hb=>(hρ b Ls hb).2
 have hat:∀ b,b < n1→(E.small σ n1).ρ b=E.ρ (σ b):=fun b hb=>by simp [Env.small,hb]
 have blt:∀ b x,h1.blk? b=some x→b < n1:=fun b x hb=>by
  rcases Nat.lt_or_ge b n1 with hh | hh
  ·exact hh
  ·simp [Heap.blk?,List.getElem?_eq_none (show h1.blks.length≤b by rw [bs.len];exact hh)] at hb
 refine ⟨fun b hb => ?_,fun b rs g fz hb => ?_,fun b es hb => ?_,fun b b' Ls Ls' L L' hne h2 h3 => ?_,fun l _=>rfl,fun l r hl => ?_,fun l l' o hl => ?_,bs.lt,hr.inside,?_⟩
 ·by_cases hlt:b < n1
  ·rw [hat b hlt]
   have:=bs.img b hlt
   rw [hb] at this
   generalize hx:h.blk? (σ b)=y at this
   cases this
   exact hr.dead _ hx
  ·simp [Env.small,hlt]
 ·have hlt:=blt b _ hb
  have hi:=bs.img b hlt
  rw [hb] at hi
  generalize hx:h.blk? (σ b)=y at hi
  cases hi with
  | rows _ rs' _ _ e1 e2 e3 =>
   obtain ⟨Ls,a1,a2⟩:=hr.rows _ _ _ _ hx
   exact ⟨Ls,by rw [hat b hlt];exact a1,a2.inn (σ:=σ) (E:=E) (E1:=E.small σ n1) (fun B=>Iff.rfl) hρ' e1 e2 e3⟩
 ·have hlt:=blt b _ hb
  have hi:=bs.img b hlt
  rw [hb] at hi
  cases hi
 ·exact hr.apart (σ b) (σ b') Ls Ls' L L' (fun e=>hne (bs.emb.inj _ _ e)) (hρ' b Ls h2) (hρ' b' Ls' h3)
 ·rw [vbg bs.loops] at hl;cases hl
 ·cases hl
 ·refine ⟨fun g row hg => ?_⟩
  obtain ⟨x0,x1,x2,x3⟩:=hr.globs.ok g row hg
  refine ⟨x0,x1,fun hf=>x2 ?_,x3⟩
  rcases hf with ⟨b,Ls,L,f1,f2,f3⟩ | ⟨l,f1⟩
  ·exact .inl ⟨σ b,Ls,L,hρ' b Ls f1,f2,f3⟩
  ·cases f1
theorem vaB {E:Env} {B:Nat} (hf:zf (E.small σ n1) B):∃ b Ls L,b < n1∧E.ρ (σ b)=some Ls∧L∈Ls∧L.blk=B:=by
 rcases hf with ⟨b,Ls,L,f1,f2,f3⟩ | ⟨l,f1⟩
 ·simp only [Env.small] at f1
  split at f1
  ·exact ⟨b,Ls,L,‹_›,f1,f2,f3⟩
  ·cases f1
 ·cases f1
open Classical in
noncomputable def Env.great (E E1':Env) (σ:Nat→Nat) (n1' n m:Nat):Env :=
 { F:=E1'.F,ρ:=fun b=>if hb:∃ c,c < n1'∧σ c=b then E1'.ρ hb.choose else if b < n then E.ρ b else none,lam:=fun l=>if l < m then E.lam l else none }
theorem ybn {E E1':Env} {n1' n m:Nat} (inj:∀ b c,σ b=σ c→b=c) {b:Nat} (hb:b < n1'):(E.great E1' σ n1' n m).ρ (σ b)=E1'.ρ b:=by
 have hex:∃ c,c < n1'∧σ c=σ b:=⟨b,hb,rfl⟩
 show (if hb:∃ c,c < n1'∧σ c=σ b then E1'.ρ hb.choose else _)=_
 rw [dif_pos hex]
 have:=hex.choose_spec.2
 rw [inj _ _ this]
theorem wb5 {E E1':Env} {n1' n m:Nat} {b:Nat} (hb:∀ c,c < n1'→σ c≠b):(E.great E1' σ n1' n m).ρ b=if b < n then E.ρ b else none:=by
 show (if hb:∃ c,c < n1'∧σ c=b then E1'.ρ hb.choose else _)=_
 rw [dif_neg (fun ⟨c,h1,h2⟩=>hb c h1 h2)]
theorem jb9 (bs:qaY σ n1 h h1) {E:Env} {w:World} (hr:HR E w h) {E1':Env} {w':World} {h1' h':Heap} (hr1:HR E1' w' h1') (hx:Ext n1 0 (E.small σ n1) w E1' w') (hn:n1≤h1'.blks.length) (hh:wbz σ n1 h h1' h') :
  HR (E.great E1' σ h1'.blks.length h.blks.length h.loops.length) w' h'∧Ext h.blks.length h.loops.length E w (E.great E1' σ h1'.blks.length h.blks.length h.loops.length) w':=by
 have em:=bs.emb
 have img:∀ b,b < h1'.blks.length→(E.great E1' σ h1'.blks.length h.blks.length h.loops.length).ρ (σ b)=E1'.ρ b:=fun b hb=>ybn em.inj hb
 have part:∀ b,(∃ c,c < h1'.blks.length∧σ c=b)∨((∀ c,c < h1'.blks.length→σ c≠b)∧(E.great E1' σ h1'.blks.length h.blks.length h.loops.length).ρ b=if b < h.blks.length then E.ρ b else none):=fun b=>by
  by_cases hb:∃ c,c < h1'.blks.length∧σ c=b
  ·exact .inl hb
  ·have hb':∀ c,c < h1'.blks.length→σ c≠b:=fun c h1 h2=>hb ⟨c,h1,h2⟩
   exact .inr ⟨hb',wb5 hb'⟩
 have small:∀ B,zf (E.small σ n1) B→zf E B:=fun B hf=>by
  obtain ⟨b,Ls,L,_,f2,f3,f4⟩:=vaB hf
  exact .inl ⟨σ b,Ls,L,f2,f3,f4⟩
 have apart:∀ b Ls L,b < h.blks.length→(∀ c,c < n1→σ c≠b)→E.ρ b=some Ls→L∈Ls→E.F L.blk→¬ zf (E.small σ n1) L.blk:=fun b Ls L hb hc hLs hL hF hf=>by
  obtain ⟨c,Ls',L',f1,f2,f3,f4⟩:=vaB hf
  exact hr.apart b (σ c) Ls Ls' L L' (fun e=>hc c f1 e.symm) hLs f2 hL f3 hF f4.symm
 have inside:∀ b Ls L,E.ρ b=some Ls→L∈Ls→L.blk < w.heap.size:=fun b Ls L h1 h2=>xi hr (.inl ⟨b,Ls,L,h1,h2,rfl⟩)
 have lost:∀ l o,E.lam l=some o→¬ zf (E.small σ n1) o:=fun l o hl hf=>by
  obtain ⟨c,Ls',L',f1,f2,f3,f4⟩:=vaB hf
  cases hlr:h.loop? l with
  | none=>rw [hr.deadl l hlr] at hl;cases hl
  | some r =>
   obtain ⟨o',q1,⟨ct,df,fi,q2,_⟩⟩:=hr.loops l r hlr
   rw [hl] at q1;injection q1 with q1;subst q1
   cases hb:h.blk? (σ c) with
   | none=>rw [hr.dead _ hb] at f2;cases f2
   | some x =>
    cases x with
    | rows rs g fz =>
     obtain ⟨Ls2,g1,g2⟩:=hr.rows _ _ _ _ hb
     rw [f2] at g1;injection g1 with g1;subst g1
     obtain ⟨arr,el,g3,_⟩:=(g2.all L' f3).lies
     rw [f4,q2] at g3;cases g3
    | mapb es =>
     have hbr:=bs.img c f1
     rw [hb] at hbr
     generalize h1.blk? c=y at hbr
     cases hbr
 have keeps:Keeps h.blks.length h.loops.length E w (E.great E1' σ h1'.blks.length h.blks.length h.loops.length) w':=by
  refine ⟨fun B o v hF hc=>hx.keeps.cells B o v hF hc,fun b hb Ls' hLs' => ?_,fun l hl o ho => ?_⟩
  ·rcases part b with ⟨c,c1,rfl⟩ | ⟨_,p2⟩
   ·rw [img c c1] at hLs'
    have hcn:c < n1:=by
     rcases Nat.lt_or_ge c n1 with hh | hh
     ·exact hh
     ·have:=em.new c hh;omega
    obtain ⟨Ls,k1,k2⟩:=hx.keeps.refs c hcn Ls' hLs'
    simp only [Env.small,hcn,if_true] at k1
    exact ⟨Ls,k1,k2⟩
   ·rw [p2,if_pos hb] at hLs'
    exact ⟨Ls',hLs',fun L hL=>⟨L,hL,rfl,rfl,rfl,rfl,Nat.le_refl _⟩⟩
  ·simp only [Env.great,hl,if_true] at ho
   exact ho
 have ext:Ext h.blks.length h.loops.length E w (E.great E1' σ h1'.blks.length h.blks.length h.loops.length) w':=by
  refine ⟨keeps,hx.size,hx.os,hx.output,hx.tape,fun B hB hf=>hx.same B hB fun hf'=>hf (small B hf'),fun B hB hF => ?_,fun B hB hf => ?_⟩
  ·rcases hx.F' B hB hF with q | q
   ·exact .inl q
   ·exact .inr (small B q)
  ·rcases hf with ⟨b,Ls,L,f1,f2,rfl⟩ | ⟨l,f1⟩
   ·rcases part b with ⟨c,c1,rfl⟩ | ⟨_,p2⟩
    ·rw [img c c1] at f1
     exact small _ (hx.foot' _ hB (.inl ⟨c,Ls,L,f1,f2,rfl⟩))
    ·rw [p2] at f1
     split at f1
     ·exact .inl ⟨b,Ls,L,f1,f2,rfl⟩
     ·cases f1
   ·simp only [Env.great] at f1
    split at f1
    ·exact .inr ⟨l,f1⟩
    ·cases f1
 refine ⟨?_,ext⟩
 have hFF:∀ B,E1'.F B↔(E.great E1' σ h1'.blks.length h.blks.length h.loops.length).F B:=fun B=>Iff.rfl
 have hρo:∀ b Ls,b < h1'.blks.length→(E.great E1' σ h1'.blks.length h.blks.length h.loops.length).ρ (σ b)=some Ls→E1'.ρ b=some Ls:=fun b Ls hb h=>by rw [img b hb] at h;exact h
 have σlt:∀ b,b < h1'.blks.length→σ b < h'.blks.length:=fun b hb=>by
  rcases Nat.lt_or_ge b n1 with hh' | hh'
  ·have:=em.lt b hh';rw [hh.len];omega
  ·have:=em.new b hh';rw [hh.len];omega
 have σn1:∀ b,σ b < h.blks.length→b < n1:=fun b hb=>by
  rcases Nat.lt_or_ge b n1 with hh | hh
  ·exact hh
  ·have:=em.new b hh;omega
 have beside:∀ b x,(∀ c,c < h1'.blks.length→σ c≠b)→h'.blk? b=some x→b < h.blks.length∧(∀ c,c < n1→σ c≠b)∧h.blk? b=some x:=fun b x hb hx'=>by
  have hc:∀ c,c < n1→σ c≠b:=fun c hc=>hb c (by omega)
  have hlt:b < h.blks.length:=by
   rcases Nat.lt_or_ge b h.blks.length with q | q
   ·exact q
   ·exfalso
    have hb':b < h'.blks.length:=by
     rcases Nat.lt_or_ge b h'.blks.length with q' | q'
     ·exact q'
     ·simp [Heap.blk?,List.getElem?_eq_none q'] at hx'
    rw [hh.len] at hb'
    have:=em.new (n1 + (b - h.blks.length)) (by omega)
    exact hb (n1 + (b - h.blks.length)) (by omega) (by omega)
  exact ⟨hlt,hc,by rw [← hh.out b hlt hc];exact hx'⟩
 have same:∀ b Ls L,b < h.blks.length→(∀ c,c < n1→σ c≠b)→E.ρ b=some Ls→L∈Ls→E.F L.blk→w'.heap[L.blk]? = w.heap[L.blk]? ∧ E1'.F L.blk:=fun b Ls L hb hc hLs hL hF=>by
  have na:=apart b Ls L hb hc hLs hL hF
  have hi:=inside b Ls L hLs hL
  exact ⟨hx.same _ hi na,(hx.F' _ hi hF).resolve_right na⟩
 have own:∀ b x Ls L,(∀ c,c < n1→σ c≠b)→h.blk? b=some x→E.ρ b=some Ls→L∈Ls→E.F L.blk:=fun b x Ls L hc hb hLs hL=>by
  cases x with
  | rows rs g fz =>
   obtain ⟨Ls2,g1,g2⟩:=hr.rows _ _ _ _ hb
   rw [hLs] at g1;injection g1 with g1;subst g1
   exact (g2.all L hL).own (bs.free b rs g fz hc hb)
  | mapb es =>
   obtain ⟨Ls2,g1,⟨L2,ces,cl,rfl,g3,_⟩⟩:=hr.maps _ _ hb
   rw [hLs] at g1;injection g1 with g1;subst g1
   obtain rfl:L=L2:=by simpa using hL
   exact g3
 refine ⟨fun b hb => ?_,fun b rs g fz hb => ?_,fun b es hb => ?_,fun b b' Ls Ls' L L' hne h2 h3 hL hL' hF => ?_,fun l hl => ?_,fun l r hl => ?_,fun l l' o h1 h2 => ?_,⟨fun b x hb => ?_,fun l r hl => ?_⟩,fun B hB=>hr1.inside B hB,hr.globs.ext ext⟩
 ·rcases part b with ⟨c,c1,rfl⟩ | ⟨p1,p2⟩
  ·rw [img c c1]
   have:=hh.img c c1
   rw [hb] at this
   generalize hy:h1'.blk? c=y at this
   cases this
   exact hr1.dead c hy
  ·rw [p2]
   split
   ·rename_i hlt
    rw [hh.out b hlt fun c hc=>p1 c (by omega)] at hb
    exact hr.dead b hb
   ·rfl
 ·rcases part b with ⟨c,c1,rfl⟩ | ⟨p1,p2⟩
  ·have hi:=hh.img c c1
   rw [hb] at hi
   generalize hy:h1'.blk? c=y at hi
   cases hi with
   | rows rs1 _ _ _ e1 e2 e3 =>
    obtain ⟨Ls,a1,a2⟩:=hr1.rows c _ _ _ hy
    exact ⟨Ls,by rw [img c c1];exact a1,a2.out (σ:=σ) hFF hρo e1 e2 e3 (hr1.lt.blks c _ hy)⟩
  ·obtain ⟨q1,q2,q3⟩:=beside b _ p1 hb
   obtain ⟨Ls,a1,a2⟩:=hr.rows b _ _ _ q3
   refine ⟨Ls,by rw [p2,if_pos q1];exact a1,a2.one,a2.now,fun L hL => ?_,a2.apart⟩
   have la:=a2.all L hL
   have hF:=own b _ Ls L q2 q3 a1 hL
   obtain ⟨s1,s2⟩:=same b Ls L q1 q2 a1 hL hF
   obtain ⟨arr,el,l1,l2,l3⟩:=la.lies
   refine ⟨⟨arr,el,s1.trans l1,l2,fun i hi hi' j hj => ?_⟩,la.len,la.fits,la.sz,fun _=>s2,fun e=>absurd hF (la.free e)⟩
   obtain ⟨v,v1,v2,v3⟩:=l3 i hi hi' j hj
   exact ⟨v,v1,v2.keep keeps (hr.lt.blks b _ q3 _ (List.getElem_mem hi) _ (List.getElem_mem hj)),v3⟩
 ·rcases part b with ⟨c,c1,rfl⟩ | ⟨p1,p2⟩
  ·have hi:=hh.img c c1
   rw [hb] at hi
   generalize h1'.blk? c=y at hi
   cases hi
  ·obtain ⟨q1,q2,q3⟩:=beside b _ p1 hb
   obtain ⟨Ls,a1,⟨L,ces,cl,rfl,a2,a3,a4,a5⟩⟩:=hr.maps b _ q3
   obtain ⟨s1,s2⟩:=same b [L] L q1 q2 a1 (by simp) a2
   refine ⟨[L],by rw [p2,if_pos q1];exact a1,L,ces,cl,rfl,s2,s1.trans a3,a4,fun i hi hj => ?_⟩
   have hl:=hr.lt.blks b _ q3 _ (List.getElem_mem hi)
   exact ⟨(a5 i hi hj).1.keep keeps hl.1,(a5 i hi hj).2.keep keeps hl.2⟩
 ·
  have cross:∀ c b' Ls Ls' L L',c < h1'.blks.length→E1'.ρ c=some Ls→L∈Ls→(∀ d,d < h1'.blks.length→σ d≠b')→(if b' < h.blks.length then E.ρ b' else none)=some Ls'→L'∈Ls'→L.blk≠L'.blk:=fun c b' Ls Ls' L L' c1 hLs hL p1 hLs' hL' e=>by
   split at hLs'
   ·rename_i hlt
    have hc:∀ d,d < n1→σ d≠b':=fun d hd=>p1 d (by omega)
    have hbx:∃ x,h.blk? b'=some x:=by
     cases hb:h.blk? b' with
     | none=>rw [hr.dead b' hb] at hLs';cases hLs'
     | some x=>exact ⟨x,rfl⟩
    obtain ⟨x,hb⟩:=hbx
    have hF':=own b' x Ls' L' hc hb hLs' hL'
    have hi:=inside b' Ls' L' hLs' hL'
    exact apart b' Ls' L' hlt hc hLs' hL' hF' (hx.foot' _ hi (.inl ⟨c,Ls,L,hLs,hL,e⟩))
   ·cases hLs'
  rcases part b with ⟨c,c1,rfl⟩ | ⟨p1,p2⟩
  ·rw [img c c1] at h2
   rcases part b' with ⟨c',c1',rfl⟩ | ⟨p1',p2'⟩
   ·rw [img c' c1'] at h3
    exact hr1.apart c c' Ls Ls' L L' (fun e=>hne (by rw [e])) h2 h3 hL hL' hF
   ·rw [p2'] at h3
    exact cross c b' Ls Ls' L L' c1 h2 hL p1' h3 hL'
  ·rw [p2] at h2
   rcases part b' with ⟨c',c1',rfl⟩ | ⟨p1',p2'⟩
   ·rw [img c' c1'] at h3
    exact fun e=>cross c' b Ls' Ls L' L c1' h3 hL' p1 h2 hL e.symm
   ·rw [p2'] at h3
    split at h2
    ·rename_i hlt
     split at h3
     ·have hc:∀ d,d < n1→σ d≠b:=fun d hd=>p1 d (by omega)
      have hbx:∃ x,h.blk? b=some x:=by
       cases hb:h.blk? b with
       | none=>rw [hr.dead b hb] at h2;cases h2
       | some x=>exact ⟨x,rfl⟩
      obtain ⟨x,hb⟩:=hbx
      exact hr.apart b b' Ls Ls' L L' hne h2 h3 hL hL' (own b x Ls L hc hb h2 hL)
     ·cases h3
    ·cases h2
 ·simp only [Env.great]
  split
  ·rename_i hlt
   rw [hh.lold l hlt] at hl
   exact hr.deadl l hl
  ·rfl
 ·have hlt:l < h.loops.length:=by
   rcases Nat.lt_or_ge l h.loops.length with q | q
   ·exact q
   ·rw [hh.lnew l q] at hl;cases hl
  rw [hh.lold l hlt] at hl
  obtain ⟨o,o1,⟨ct,df,fi,o2,o3⟩⟩:=hr.loops l r hl
  have hi:o < w.heap.size:=xi hr (.inr ⟨l,o1⟩)
  refine ⟨o,by simp only [Env.great,hlt,if_true];exact o1,ct,df,fi,(hx.same o hi (lost l o o1)).trans o2,o3.keep keeps (hr.lt.loops l r hl)⟩
 ·simp only [Env.great] at h1 h2
  split at h1
  ·split at h2
   ·exact hr.lapart l l' o h1 h2
   ·cases h2
  ·cases h1
 ·rcases part b with ⟨c,c1,rfl⟩ | ⟨p1,p2⟩
  ·have hi:=hh.img c c1
   rw [hb] at hi
   generalize hy:h1'.blk? c=y at hi
   cases hi with
   | rows rs1 rs2 g fz e1 e2 e3 =>
    have hl1:=hr1.lt.blks c _ hy
    intro r hr' x hxr
    obtain ⟨i,hi,rfl⟩:=List.getElem_of_mem hr'
    obtain ⟨j,hj,rfl⟩:=List.getElem_of_mem hxr
    have hi1:i < rs1.length:=by omega
    have hj1:j < rs1[i].length:=by rw [e2 i hi1 hi];exact hj
    exact (e3 i hi1 hi j hj1 hj).lt (n1':=h1'.blks.length) (m1':=h1'.loops.length) σlt (hl1 _ (List.getElem_mem hi1) _ (List.getElem_mem hj1))
  ·obtain ⟨q1,q2,q3⟩:=beside b _ p1 hb
   have hl:=hr.lt.blks b _ q3
   have mono:∀ y,Lt h.blks.length h.loops.length y→Lt h'.blks.length h'.loops.length y:=fun y hy=>hy.mono (by rw [hh.len];omega) hh.llen
   cases x with
   | rows rs g fz=>exact fun r hr' y hy=>mono y (hl r hr' y hy)
   | mapb es=>exact fun e he=>⟨mono _ (hl e he).1,mono _ (hl e he).2⟩
 ·have hlt:l < h.loops.length:=by
   rcases Nat.lt_or_ge l h.loops.length with q | q
   ·exact q
   ·rw [hh.lnew l q] at hl;cases hl
  rw [hh.lold l hlt] at hl
  exact fun y hy=>(hr.lt.loops l r hl y hy).mono (by rw [hh.len];omega) hh.llen
theorem zcd {f:FuncId} {args1 args:List AV} {K1 K:AV→Heap→Prop} (bs:qaY σ n1 h h1) (hal:args1.length=args.length) (ha:∀ (i:Nat) (hi:i < args1.length) (hj:i < args.length),Ren σ h.loops.length args1[i] args[i])
  (hla:∀ x∈args1,Lt n1 0 x) (hc:CallSem P f args1 h1 K1)
  (hk:∀ r1 h1',K1 r1 h1'→n1≤h1'.blks.length→∃ r h',Ren σ h.loops.length r1 r∧wbz σ n1 h h1' h'∧K r h'):CallSem P f args h K :=
 ⟨hc.ok,fun E w vs hr ht _ cs=>by
  have hn1:=bs.len
  have ht1:TR (E.small σ n1) w args1 vs:=⟨by rw [hal];exact ht.size,fun i hi hj=>by
   refine Ren.inn (E:=E) (E1:=E.small σ n1) (fun B=>Iff.rfl) (fun b Ls hb => ?_) (ha i hi (by omega)) _ (ht.val i (by omega) hj)
   simp only [Env.small] at hb
   split at hb
   ·exact hb
   ·cases hb⟩
  obtain ⟨r1,h1',E1',w',v,fr,k1,s1,s2,s3,s4,s5,s6,s7,s8,s9⟩:=hc.run (E.small σ n1) w vs (qbH bs hr) ht1 (fun x hx=>by rw [hn1,bs.loops];exact hla x hx) cs
  rw [hn1,bs.loops] at s6
  obtain ⟨r,h',q1,q2,q3⟩:=hk r1 h1' k1 (by omega)
  obtain ⟨b1,b2⟩:=jb9 bs hr s2 s6 (by omega) q2
  have σlt:∀ b,b < h1'.blks.length→σ b < h'.blks.length:=fun b hb=>by
   rcases Nat.lt_or_ge b n1 with hh' | hh'
   ·have:=bs.emb.lt b hh';rw [q2.len];omega
   ·have:=bs.emb.new b hh';rw [q2.len];omega
  exact ⟨r,h',E.great E1' σ h1'.blks.length h.blks.length h.loops.length,w',v,fr,q3,q1.out (E':=E.great E1' σ h1'.blks.length h.blks.length h.loops.length) (E1':=E1') (n1':=h1'.blks.length) (m1':=h1'.loops.length) (fun B=>Iff.rfl) (fun b Ls hb h=>by rw [ybn bs.emb.inj hb] at h;exact h) s3 v s1,b1,
   q1.lt (n1':=h1'.blks.length) (m1':=h1'.loops.length) σlt s3,by rw [q2.len];omega,q2.llen,b2,s7,s8,s9⟩⟩
end embed
end
end Go.Abs
