/-
  Steps to a law of this program: AbsOps6, AbsOps7, AbsOps8.
  Conditions: none.
-/
import Derived.Test.YtpdnijifmebnbaaGreatDoorB5
import Derived.Laws.MakeOwn
import Derived.Laws.AppendOwn
set_option linter.unusedVariables false
set_option linter.unusedSimpArgs false
set_option linter.unusedSectionVars false
namespace Go.Abs
noncomputable section
variable [Gl]
section ops
variable {P:Program} {T:Tab} {h:Heap} {E:Env} {w:World} {K:AV→Heap→Prop}
structure Flat (E:Env) (w:World) (size:Nat) (rs:List (List AV)) (cs:List Value):Prop where
 len:cs.length=rs.length * size
 sz:∀ (i:Nat) (hi:i < rs.length),rs[i].length=size
 val:∀ (i:Nat) (hi:i < rs.length) (j:Nat) (hj:j < rs[i].length),∃ v,cs[i * size + j]? = some v∧VR E w rs[i][j] v∧one v=true
omit [Gl] in
theorem Flat.one_mem {size:Nat} {rs:List (List AV)} {cs:List Value} (f:Flat E w size rs cs):∀ c∈cs,one c=true:=by
 intro c hc
 obtain ⟨k,hk,rfl⟩:=List.getElem_of_mem hc
 rw [f.len] at hk
 have hs:0 < size:=by
  rcases Nat.eq_zero_or_pos size with h | h
  ·subst h;simp at hk
  ·exact h
 have hi:k / size < rs.length:=Nat.div_lt_of_lt_mul (by rwa [Nat.mul_comm])
 have hj:k % size < (rs[k / size]).length:=by rw [f.sz _ hi];exact Nat.mod_lt _ hs
 obtain ⟨v,h1,_,h3⟩:=f.val _ hi _ hj
 rw [Nat.mul_comm,Nat.div_add_mod,List.getElem?_eq_getElem (by rw [f.len];exact hk)] at h1
 injection h1 with h1
 exact h1 ▸ h3
omit [Gl] in
theorem uH {i j size n:Nat} (hi:i < n) (hj:j < size):i * size + j < n * size:=by
 have:=Nat.mul_le_mul_right size (show i + 1≤n from hi)
 rw [Nat.add_mul] at this
 omega
theorem Flat.append {size:Nat} {rs rs':List (List AV)} {cs cs':List Value} (f:Flat E w size rs cs) (f':Flat E w size rs' cs'):Flat E w size (rs ++ rs') (cs ++ cs'):=by
 have hsz:∀ (i:Nat) (hi:i < (rs ++ rs').length),(rs ++ rs')[i].length=size:=fun i hi=>by
  rcases Nat.lt_or_ge i rs.length with h | h
  ·rw [List.getElem_append_left h];exact f.sz i h
  ·rw [List.getElem_append_right h];exact f'.sz _ _
 refine ⟨by simp [f.len,f'.len,Nat.add_mul],hsz,fun i hi j hj => ?_⟩
 have hjs:j < size:=by rw [← hsz i hi];exact hj
 rcases Nat.lt_or_ge i rs.length with h | h
 ·have e:(rs ++ rs')[i][j]=rs[i][j]'(by rw [f.sz i h];exact hjs):=by simp [List.getElem_append_left h]
  obtain ⟨v,v1,v2,v3⟩:=f.val i h j (by rw [f.sz i h];exact hjs)
  refine ⟨v,?_,by rw [e];exact v2,v3⟩
  rw [List.getElem?_append_left (by rw [f.len];exact uH h hjs)];exact v1
 ·have hi':i - rs.length < rs'.length:=by simp at hi;omega
  have e:(rs ++ rs')[i][j]=rs'[i - rs.length][j]'(by rw [f'.sz _ hi'];exact hjs):=by simp [List.getElem_append_right h]
  obtain ⟨v,v1,v2,v3⟩:=f'.val _ hi' j (by rw [f'.sz _ hi'];exact hjs)
  refine ⟨v,?_,by rw [e];exact v2,v3⟩
  have hle:cs.length≤i * size + j:=by rw [f.len];have:=Nat.mul_le_mul_right size h;omega
  rw [List.getElem?_append_right hle,f.len]
  rw [show i * size + j - rs.length * size=(i - rs.length) * size + j from by rw [Nat.sub_mul];have:=Nat.mul_le_mul_right size h;omega]
  exact v1
theorem xbo {L:Loc} {rs:List (List AV)} {fz:Bool} {i len size:Nat} (hl:j8 E w L rs fz) (hi:i + len≤L.len) (hsz:L.sz=size) :
  ∃ cs,Flat E w size ((rs.drop i).take len) cs∧∀ (k:Nat) (v:Value),cs[k]? = some v→w.cell? ⟨L.blk,L.off + i * L.sz + k,none⟩=some v:=by
 obtain ⟨arr,el,a1,a2,a3⟩:=hl.lies
 have hrl:=hl.len
 have hwl:((rs.drop i).take len).length=len:=by simp;omega
 have hfit:=hl.fits
 have hmul:(i + len) * L.sz≤L.len * L.sz:=Nat.mul_le_mul_right _ hi
 rw [Nat.add_mul] at hmul
 refine ⟨(arr.toList.drop (L.off + i * L.sz)).take (len * size),⟨?_,fun t ht => ?_,fun t ht j hj => ?_⟩,fun k v hk => ?_⟩
 ·rw [hwl];simp;subst hsz;omega
 ·rw [hwl] at ht
  have e:((rs.drop i).take len)[t]'(by rw [hwl];exact ht)=rs[i + t]'(by omega):=by simp
  rw [e,← hsz];exact hl.sz _ _
 ·rw [hwl] at ht
  have e:((rs.drop i).take len)[t]'(by rw [hwl];exact ht)=rs[i + t]'(by omega):=by simp
  have hj':j < (rs[i + t]'(by omega)).length:=by rw [← e];exact hj
  obtain ⟨v,v1,v2,v3⟩:=a3 (i + t) (by omega) (by omega) j hj'
  have hjs:j < size:=by rw [← hsz,← hl.sz (i + t) (by omega)];exact hj'
  refine ⟨v,?_,?_,v3⟩
  ·rw [List.getElem?_take,if_pos (uH ht hjs),List.getElem?_drop,Array.getElem?_toList]
   rw [show L.off + i * L.sz + (t * size + j)=L.off + (i + t) * L.sz + j from by rw [Nat.add_mul,hsz];omega]
   exact v1
  ·have e2:((rs.drop i).take len)[t][j]=(rs[i + t]'(by omega))[j]'hj':=by simp
   rw [e2];exact v2
 ·rw [List.getElem?_take] at hk
  split at hk
  ·rw [List.getElem?_drop,Array.getElem?_toList] at hk
   simp only [World.cell?,a1]
   simpa using hk
  ·cases hk
theorem jP {B o size n len cap:Nat} {cs:List Value} (hl:cs.length=n * size) (hc:∀ (k:Nat) (v:Value),cs[k]? = some v→w.cell? ⟨B,o + k,none⟩=some v) :
  (Builtin.firstCells size n (.slice (some ⟨B,o,none⟩) len cap)).run P w=.ok cs.toArray w :=
 run_firstCells_some (P:=P) w size n ⟨B,o,none⟩ len cap cs hl fun j v hj=>by rw [Addr.add_none];exact hc j v hj
theorem yam (hr:HR E w h) {x:AV} {v:Value} {new:List (List AV)} {size:Nat} (hv:VR E w x v) (hx:jo h x=some new) (hs:∀ row∈new,row.length=size∧row.all okc=true) (hpos:0 < size)
  (hstr:(∃ s,x=.str s)→size=1) :
  ∃ cs,Flat E w size new cs∧(Builtin.lenOf v).run P w=.ok new.length w∧(∀ w',w'.heap=w.heap→(Builtin.firstCells size new.length v).run P w'=.ok cs.toArray w'):=by
 unfold jo at hx
 split at hx
 ·rename_i es capo
  injection hx with hx;subst hx
  cases hv with
  | vs _ _ B off cap sz vals hlen hcap hsz hF hh =>
   by_cases he:es.length=0
   ·have:es=[]:=List.eq_nil_of_length_eq_zero he
    subst this
    exact ⟨[],⟨by simp,fun i hi=>by simp at hi,fun i hi=>by simp at hi⟩,by simp [Builtin.lenOf],fun w' _=>jP (by simp) (fun k v hk=>by simp at hk)⟩
   ·have hss:sz=size:=by
     have h0:0 < es.length:=by omega
     rw [← hsz 0 h0];exact (hs _ (List.getElem_mem h0)).1
    subst hss
    have hval:∀ (i:Nat) (hi:i < es.length) (j:Nat) (hj:j < es[i].length),((List.range (es.length * sz)).map fun k=>vals (k / sz) (k % sz))[i * sz + j]? = some (vals i j):=fun i hi j hj=>by
     have hj':j < sz:=by rw [← hsz i hi];exact hj
     rw [List.getElem?_map,List.getElem?_range (uH hi hj')]
     have e1:(i * sz + j) / sz=i:=by rw [Nat.add_comm,Nat.add_mul_div_right _ _ hpos,Nat.div_eq_of_lt hj',Nat.zero_add]
     have e2:(i * sz + j) % sz=j:=by rw [Nat.add_comm,Nat.add_mul_mod_self_right,Nat.mod_eq_of_lt hj']
     simp [e1,e2]
    refine ⟨(List.range (es.length * sz)).map fun k=>vals (k / sz) (k % sz),⟨by simp,hsz,fun i hi j hj=>⟨vals i j,hval i hi j hj,hh i hi j hj,yaI (hh i hi j hj) ?_⟩⟩,by simp [Builtin.lenOf],fun w' hw'=>jP (by simp) (fun k v hk => ?_)⟩
    ·exact List.all_eq_true.1 (hs _ (List.getElem_mem hi)).2 _ (List.getElem_mem hj)
    ·rw [List.getElem?_map] at hk
     have hklt:k < es.length * sz:=by
      rcases Nat.lt_or_ge k (es.length * sz) with h | h
      ·exact h
      ·rw [List.getElem?_eq_none (by simpa using h)] at hk;cases hk
     rw [List.getElem?_range hklt] at hk
     injection hk with hk;subst hk
     have hi:k / sz < es.length:=Nat.div_lt_of_lt_mul (by rwa [Nat.mul_comm])
     have hj:k % sz < (es[k / sz]).length:=by rw [hsz _ hi];exact Nat.mod_lt _ hpos
     have:=(hF _ hi _ hj).2
     rw [Nat.add_assoc,Nat.mul_comm (k / sz),Nat.div_add_mod] at this
     simp only [World.cell?,hw'] at this ⊢
     exact this
 ·injection hx with hx;subst hx
  cases hv
  exact ⟨[],⟨by simp,fun i hi=>by simp at hi,fun i hi=>by simp at hi⟩,by simp [Builtin.lenOf],fun w' _=>by simp [Builtin.firstCells]⟩
 ·rename_i s
  injection hx with hx;subst hx
  cases hv
  have h1:size=1:=hstr ⟨s,rfl⟩
  subst h1
  refine ⟨s.map fun c=>.int .u8 c.toNat,⟨by simp,fun i hi=>by simp,fun i hi j hj => ?_⟩,by simp [Builtin.lenOf,wV],fun w' _ => ?_⟩
  ·have hi':i < s.length:=by simpa using hi
   have hj0:j=0:=by simpa using hj
   subst hj0
   exact ⟨.int .u8 s[i].toNat,by simp [hi'],by simp;exact .int _ _,rfl⟩
  ·simp only [Builtin.firstCells,List.length_map]
   rw [vbq]
   simp
 ·rename_i b i len capo
  split at hx
  ·rename_i rs g fz hb
   split at hx
   ·rename_i hle
    injection hx with hx;subst hx
    obtain ⟨Ls,L,c,g1,hL,g2,g3,g4,g5,g6,k0,hk0,rfl⟩:=wH hr hv hb
    have hla:=g2.all L hL
    have hwl:((rs.drop i).take len).length=len:=by simp;omega
    by_cases hz:len=0
    ·subst hz
     refine ⟨[],⟨by simp,fun i hi=>by simp at hi,fun i hi=>by simp at hi⟩,by simp [Builtin.lenOf],fun w' _ => ?_⟩
     exact jP (by simp) (fun k v hk=>by simp at hk)
    ·obtain rfl:i=k0:=by omega
     have hLs:L.sz=size:=by
      have hi0:i < rs.length:=by have:=hla.len;omega
      rw [← hla.sz i hi0]
      refine (hs rs[i] ?_).1
      have:((rs.drop i).take len)[0]'(by omega)=rs[i]:=by simp
      rw [← this];exact List.getElem_mem _
     obtain ⟨cs,f,hc⟩:=xbo hla (by omega) hLs (i:=i) (len:=len)
     refine ⟨cs,f,by rw [hwl];simp [Builtin.lenOf],fun w' hw'=>jP f.len fun k v hk => ?_⟩
     have:=hc k v hk
     simp only [World.cell?,hw'] at this ⊢
     exact this
   ·cases hx
  ·cases hx
 ·cases hx
end ops
end
end Go.Abs

namespace Go.Abs
noncomputable section
variable [Gl]
section ops
variable {P:Program} {T:Tab} {h:Heap} {E:Env} {w:World} {K:AV→Heap→Prop}
def gE:TypeDesc→Bool
 | .slice _ | .string=>true
 | _=>false
omit [Gl] in
theorem jbd {d:TypeDesc} (h:gE d=true):(∃ e,d=.slice e)∨d=.string:=by
 cases d <;> simp [gE] at h <;> simp
theorem xaD (hT:wc P T) {t u ty e:TypeId} {ti ui ei:TI} (ht:T t=some ti) (hd:ti.desc=.slice e) (hu:T u=some ui) (hnu:gE ui.desc=true) (hei:T e=some ei)
  {base:Option Addr} {sLen sCap n:Nat} {vx:Value} {ocs ncs:List Value} (hfo:∀ w',w'.heap=w.heap→(Builtin.firstCells ei.size sLen (.slice base sLen sCap)).run P w'=.ok ocs.toArray w')
  (hfn:∀ w',w'.heap=w.heap→(Builtin.firstCells ei.size n vx).run P w'=.ok ncs.toArray w') (hl:(Builtin.lenOf vx).run P w=.ok n w)
  (hg:sCap < sLen + n) (hb:(sLen + n) * ei.bytes≤140737488355328) (hb0:0 < ei.bytes) :
  ∃ cap w' zs,sLen + n≤cap∧(Builtin.append_ #[t,u] ty #[.slice base sLen sCap,vx]).run P w=.ok (.slice (some ⟨w.heap.size,0,none⟩) (sLen + n) cap) w' ∧
   w'.heap=w.heap.push (.cells (ocs.toArray ++ ncs.toArray ++ zs) e (0,0))∧zs.size=(cap - (sLen + n)) * ei.size∧w'.os=w.os∧w'.output=w.output∧w'.tape=w.tape:=by
 obtain ⟨_,info,hinfo,hsize,hbytes,z,hz,_,hzs,_⟩:=hT.ok e ei hei
 have hn:¬ (sLen + n≤sCap):=by omega
 have hneed:sLen + n≤140737488355328:=Nat.le_trans (Nat.le_mul_of_pos_right _ hb0) hb
 have h63:¬ (9223372036854775807 < ((sLen:Int) + (n:Int))):=by omega
 have h63':¬ (IntKind.i64.max < ((sLen:Int) + (n:Int))):=by rw [show IntKind.i64.max=9223372036854775807 from by decide];exact h63
 have h48:¬ (281474976710656 < Builtin.nextslicecap (sLen + n) sCap * info.bytes):=by rw [hbytes];have:=growslice_fits hg hb;omega
 refine ⟨grownCap w (sLen + n) sCap e,w.drew.alloc (.cells (ocs.toArray ++ ncs.toArray ++ Builtin.zeroCells z.cells (grownCap w (sLen + n) sCap e - (sLen + n))) e (0,0)),_,grownCap_ge w _ _ e,?_,rfl,by rw [size_zeroCells,hzs],rfl,rfl,rfl⟩
 have e1:=hfo w.drew rfl
 have e2:=hfn w.drew rfl
 have hsz:∀ w':World,(sizeOf e).run P w'=.ok ei.size w':=fun w'=>zq hT hei
 have hti:∀ w':World,(typeInfo e).run P w'=.ok info w':=fun w'=>jV hinfo
 have hzv:∀ w':World,(zeroValue e).run P w'=.ok z w':=fun w'=>by simp [zeroValue,jV hinfo,hz]
 have hcut:(Question.appendCap (sLen + n) sCap e).cut (w.tape w.drawn (.appendCap (sLen + n) sCap e))=grownCap w (sLen + n) sCap e:=rfl
 have hbz:¬ info.bytes=0:=by omega
 simp only [Builtin.append_]
 rcases jbd hnu with ⟨e',hue⟩ | hue <;>
  simp [jf hT ht,hd,jf hT hu,hue,hsz,hl,hn,h63',hti,h48,hbz,Question.forced,hcut,e1,e2,hzv,newRow]
 all_goals (congr 2;apply Array.ext';simp [List.append_assoc])
theorem zam (hT:wc P T) {t u ty e:TypeId} {ti ui ei:TI} (ht:T t=some ti) (hd:ti.desc=.slice e) (hu:T u=some ui) (hnu:gE ui.desc=true) (hei:T e=some ei)
  {base:Option Addr} {sLen sCap n:Nat} {vx:Value} {ncs:List Value} (hfn:∀ w',w'.heap=w.heap→(Builtin.firstCells ei.size n vx).run P w'=.ok ncs.toArray w') (hl:(Builtin.lenOf vx).run P w=.ok n w)
  (hg:sLen + n≤sCap) :
  (Builtin.append_ #[t,u] ty #[.slice base sLen sCap,vx]).run P w=((match base with | some a=>storeCells (a.add (sLen * ei.size)) ncs | none=>pure ():Sem Unit).run P w).andThen fun _ w'=>.ok (.slice base (sLen + n) sCap) w':=by
 have e2:=hfn w rfl
 simp only [Builtin.append_]
 rcases jbd hnu with ⟨e',hue⟩ | hue <;> cases base <;> simp [jf hT ht,hd,jf hT hu,hue,zq hT hei,hl,hg,e2]
theorem uap (hr:HR E w h) {w':World} {e:TypeId} {rs:List (List AV)} {cs:List Value} {more:Array Value} {g:Bool} {size cap:Nat} (f:Flat E w size rs cs)
  (hlt:∀ r∈rs,∀ x∈r,Lt h.blks.length h.loops.length x) (hw:w'.heap=w.heap.push (.cells (cs.toArray ++ more) e (0,0))) (ho:w'.os=w.os) (hout:w'.output=w.output) (ht:w'.tape=w.tape)
  (hcap:cs.length + more.size=cap * size) {len:Nat} (hlen:len≤rs.length) (hlc:len≤cap) {capo:Option Nat} (hco:∀ k,capo=some k→cap=k) {s:Sem Value}
  (hrun:s.run P w=.ok (.slice (some ⟨w.heap.size,0,none⟩) len cap) w') (hk:K (.ms h.blks.length 0 len capo) (h.push (.rows rs g false))):VOK P h E w s K:=by
 obtain ⟨p1,p2⟩:=xbl (E:=E) (w:=w) (w':=w') hr (arr:=cs.toArray ++ more) (el:=e) (rs:=rs) (g:=g) (sz:=size) hw ho hout ht f.sz
  (by have:=f.len;simp;omega)
  (fun i hi j hj=>by
   obtain ⟨v,v1,v2,v3⟩:=f.val i hi j hj
   refine ⟨v,?_,v2,v3⟩
   have hlt:i * size + j < cs.length:=by rw [f.len];exact uH hi (by rw [← f.sz i hi];exact hj)
   rw [Array.getElem?_append_left (by simpa using hlt)]
   simpa using v1) hlt
 refine ⟨_,_,_,_,_,hrun,hk,.ms _ _ _ _ _ _ _ fun Ls hLs => ?_,p1,.ms _ _ _ _ (by simp [Heap.push]),by simp [Heap.push],Nat.le_refl _,p2⟩
 have e0:(E.with h.blks.length [⟨w.heap.size,0,size,(cs.toArray ++ more).size,rs.length⟩]).ρ h.blks.length=some [⟨w.heap.size,0,size,(cs.toArray ++ more).size,rs.length⟩]:=by
  show (if _ then _ else _)=_;rw [if_pos rfl]
 have e1:=hLs.symm.trans e0
 injection e1 with e1;subst e1
 exact ⟨_,List.mem_singleton.2 rfl,by simpa using hlen,hlc,by simp;omega,hco,⟨0,.inr rfl,by simp⟩,rfl⟩
theorem xbX (hr:HR E w h) {w':World} {e:TypeId} {rs:List (List AV)} {cs:List Value} {size:Nat} (f:Flat E w size rs cs)
  (hlt:∀ r∈rs,∀ x∈r,Lt h.blks.length h.loops.length x) (hw:w'.heap=w.heap.push (.cells cs.toArray e (0,0))) (ho:w'.os=w.os) (hout:w'.output=w.output) (ht:w'.tape=w.tape)
  {s:Sem Value} (hrun:s.run P w=.ok (.slice (some ⟨w.heap.size,0,none⟩) rs.length rs.length) w') (hk:K (.vs rs (some rs.length)) h):VOK P h E w s K:=by
 have g:Grows w w':=⟨by rw [hw];simp,ho,hout,ht,fun B hB=>by rw [hw,Array.getElem?_push,if_neg (by omega)]⟩
 obtain ⟨x1,x2⟩:=g.ext hr h.blks.length h.loops.length
 have cell:∀ (i:Nat) (hi:i < rs.length) (j:Nat) (hj:j < rs[i].length),∃ v,cs[i * size + j]? = some v∧VR E w rs[i][j] v:=fun i hi j hj=>by
  obtain ⟨v,v1,v2,_⟩:=f.val i hi j hj
  exact ⟨v,v1,v2⟩
 refine ⟨_,h,E,w',_,hrun,hk,?_,x2,.vs _ _ fun i hi j hj=>hlt _ (List.getElem_mem hi) _ (List.getElem_mem hj),Nat.le_refl _,Nat.le_refl _,x1⟩
 refine .vs rs _ w.heap.size 0 rs.length size (fun i j=>(cs[i * size + j]?).getD undef) (Nat.le_refl _) (fun k hk=>by injection hk) f.sz (fun i hi j hj=>⟨fun hF=>absurd (hr.inside _ hF) (by omega),?_⟩) (fun i hi j hj => ?_)
 ·obtain ⟨v,v1,_⟩:=cell i hi j hj
  have:w'.heap[w.heap.size]? = some (.cells cs.toArray e (0,0)):=by rw [hw,Array.getElem?_push,if_pos rfl]
  simp only [World.cell?,this,Nat.zero_add,v1,Option.getD_some]
  simpa using v1
 ·obtain ⟨v,v1,v2⟩:=cell i hi j hj
  simp only [v1,Option.getD_some]
  exact v2.keep x1.keeps (hlt _ (List.getElem_mem hi) _ (List.getElem_mem hj))
omit [Gl] in
theorem uaD {rs new:List (List AV)} {p:Nat} (hp:p≤rs.length) (k:Nat) (hk:k < (rs.take p ++ new ++ rs.drop (p + new.length)).length) :
  (∃ h:k < rs.length,(k < p∨p + new.length≤k)∧(rs.take p ++ new ++ rs.drop (p + new.length))[k]=rs[k]) ∨
  (∃ h:k - p < new.length,p≤k∧k < p + new.length∧(rs.take p ++ new ++ rs.drop (p + new.length))[k]=new[k - p]):=by
 simp only [List.length_append,List.length_take,List.length_drop] at hk
 have hm:min p rs.length=p:=by omega
 rcases Nat.lt_or_ge k p with h1 | h1
 ·refine .inl ⟨by omega,.inl h1,?_⟩
  rw [List.getElem_append_left (by simp only [List.length_append,List.length_take];omega),List.getElem_append_left (by simp only [List.length_take];omega)]
  simp
 ·rcases Nat.lt_or_ge k (p + new.length) with h2 | h2
  ·refine .inr ⟨by omega,h1,h2,?_⟩
   rw [List.getElem_append_left (by simp only [List.length_append,List.length_take];omega),List.getElem_append_right (by simp only [List.length_take];omega)]
   simp only [List.length_take,hm]
  ·refine .inl ⟨by omega,.inr h2,?_⟩
   rw [List.getElem_append_right (by simp only [List.length_append,List.length_take];omega)]
   simp only [List.getElem_drop,List.length_append,List.length_take,hm]
   congr 1;omega
theorem yaF (hr:HR E w h) {b:Nat} {rs new:List (List AV)} {g g':Bool} {Ls:List Loc} {L:Loc} (hbl:h.blk? b=some (.rows rs g false)) (g1:E.ρ b=some Ls) (g2:RowsAt E w Ls rs g false) (hL:L∈Ls)
  {p:Nat} {ncs:List Value} (fn:Flat E w L.sz new ncs) (hnlt:∀ r∈new,∀ y∈r,Lt h.blks.length h.loops.length y) (hLlen:L.len=rs.length) (hp:p≤rs.length)
  (hoth:∀ L2∈Ls,L2.blk≠L.blk→L2.len≤p∧L2.sz=L.sz) (hfit:L.off + (p + new.length) * L.sz≤L.n) (hg:g'=false→Ls=[L]) :
  ∃ E' w' L',(storeCells ⟨L.blk,L.off + p * L.sz,none⟩ ncs).run P w=.ok () w'∧HR E' w' (h.put b (.rows (rs.take p ++ new ++ rs.drop (p + new.length)) g' false))∧Ext h.blks.length h.loops.length E w E' w' ∧
   (∃ Ls',E'.ρ b=some Ls'∧L'∈Ls')∧L'.blk=L.blk∧L'.off=L.off∧L'.sz=L.sz∧L'.n=L.n∧p + new.length≤L'.len∧L.len≤L'.len:=by
 have hla:=g2.all L hL
 obtain ⟨arr,el,a1,a2,a3⟩:=hla.lies
 have hB:L.blk < w.heap.size:=xi hr (.inl ⟨b,Ls,L,g1,hL,rfl⟩)
 have hpn:(p + new.length) * L.sz=p * L.sz + new.length * L.sz:=Nat.add_mul ..
 have hnl:=fn.len
 obtain ⟨w',r1,r2,r3,r4,r5⟩:=qal (P:=P) (B:=L.blk) (off:=L.off + p * L.sz) (el:=el) ncs 0 arr w a1 fn.one_mem (by omega)
 rw [Nat.add_zero] at r2
 have hheap:∀ B,B≠L.blk→w'.heap[B]? = w.heap[B]? := fun B hB=>by rw [r2,Array.getElem?_setIfInBounds_ne (Ne.symm hB)]
 have hat:w'.heap[L.blk]? = some (.cells (qp arr (L.off + p * L.sz) ncs) el (0,0)):=by rw [r2,Array.getElem?_setIfInBounds_self_of_lt hB]
 have hsize:w'.heap.size=w.heap.size:=by rw [r2];simp
 let rs':=rs.take p ++ new ++ rs.drop (p + new.length)
 have hrl:rs'.length=max rs.length (p + new.length):=by simp only [rs',List.length_append,List.length_take,List.length_drop];omega
 let L':Loc:={ L with len:=rs'.length }
 let up:Loc→Loc:=fun L2=>if L2.blk=L.blk then L' else L2
 have hup:∀ L2,(up L2).blk=L2.blk:=fun L2=>by
  show (if _ then _ else _:Loc).blk=_
  split
  ·rename_i e;exact e.symm
  ·rfl
 have huniq:∀ L2∈Ls,L2.blk=L.blk→L2=L:=fun L2 h2 e=>by
  have:=g2.apart
  have inj:∀ (l:List Loc),(l.map (·.blk)).Nodup→∀ x∈l,∀ y∈l,x.blk=y.blk→x=y:=by
   intro l
   induction l with
   | nil=>intro _ x hx;simp at hx
   | cons a l ih =>
    intro hn x hx y hy e
    rw [List.map_cons,List.nodup_cons] at hn
    rcases List.mem_cons.1 hx with hxa | hx'
    ·rcases List.mem_cons.1 hy with hya | hy'
     ·rw [hxa,hya]
     ·exact absurd (List.mem_map.2 ⟨y,hy',by rw [← hxa];exact e.symm⟩) hn.1
    ·rcases List.mem_cons.1 hy with hya | hy'
     ·exact absurd (List.mem_map.2 ⟨x,hx',by rw [← hya];exact e⟩) hn.1
     ·exact ih hn.2 x hx' y hy' e
  exact inj Ls this L2 h2 L hL e
 have hmem:∀ L2∈Ls.map up,L2=L'∨(L2∈Ls∧L2.blk≠L.blk):=fun L2 h2=>by
  obtain ⟨L3,h3,rfl⟩:=List.mem_map.1 h2
  show (if _ then _ else _)=_∨_
  by_cases e:L3.blk=L.blk
  ·exact .inl (if_pos e)
  ·refine .inr ?_
   have:up L3=L3:=if_neg e
   rw [this];exact ⟨h3,e⟩
 have hL'mem:L'∈Ls.map up:=List.mem_map.2 ⟨L,hL,if_pos rfl⟩
 have hszall:∀ (k:Nat) (hk:k < rs'.length),rs'[k].length=L.sz:=fun k hk=>by
  rcases uaD hp k hk with ⟨h1,_,h3⟩ | ⟨h1,_,_,h3⟩
  ·show (rs.take p ++ new ++ rs.drop (p + new.length))[k].length=_;rw [h3];exact hla.sz k h1
  ·show (rs.take p ++ new ++ rs.drop (p + new.length))[k].length=_;rw [h3];exact fn.sz _ h1
 have hch:=yaO (E:=E) (w:=w) (w':=w') hr (b:=b) (rs:=rs) (rs':=rs') (g:=g) (g':=g') (Ls:=Ls) (Ls':=Ls.map up)
  hbl g1 r3 r4 r5 (by omega) (fun B _ hne=>hheap B (fun e=>hne L hL e.symm))
  (fun L2 h2=>by
   obtain ⟨L3,h3,rfl⟩:=List.mem_map.1 h2
   rw [hup]
   exact ⟨by rw [hsize];exact xi hr (.inl ⟨b,Ls,L3,g1,h3,rfl⟩),.inl ⟨L3,h3,rfl⟩⟩)
  (fun L2 h2=>by
   by_cases e:L2.blk=L.blk
   ·obtain rfl:=huniq L2 h2 e
    exact ⟨L',hL'mem,rfl,rfl,rfl,rfl,by show L2.len≤rs'.length;omega⟩
   ·have:up L2=L2:=if_neg e
    exact ⟨L2,List.mem_map.2 ⟨L2,h2,this⟩,rfl,rfl,rfl,rfl,Nat.le_refl _⟩)
  (fun keeps=>by
   refine ⟨fun hgf => ?_,⟨L',hL'mem,rfl⟩,fun L2 h2 => ?_,?_⟩
   ·have:=hg hgf
    refine ⟨L',?_⟩
    rw [this]
    show [up L]=[L']
    rw [show up L=L' from if_pos rfl]
   ·rcases hmem L2 h2 with rfl | ⟨h3,hne⟩
    ·refine ⟨⟨_,el,hat,by rw [vV];exact a2,fun k hk hkl j hj => ?_⟩,Nat.le_refl _,?_,hszall,fun _=>.inl (hla.own rfl),fun h=>by cases h⟩
     ·have hjs:j < L.sz:=by rw [← hszall k hk];exact hj
      have hvl:ncs.length=new.length * L.sz:=fn.len
      rw [qaa _ _ _ _ (by omega)]
      rcases uaD hp k hk with ⟨h1,h2,h3⟩ | ⟨h1,h2,h3,h4⟩
      ·have hj':j < rs[k].length:=by rw [hla.sz k h1];exact hjs
       have hout:¬ (L.off + p * L.sz≤L.off + k * L.sz + j∧L.off + k * L.sz + j < L.off + p * L.sz + ncs.length):=by
        rcases h2 with h2 | h2
        ·have:=Nat.mul_le_mul_right L.sz (show k + 1≤p from h2)
         rw [Nat.add_mul] at this
         omega
        ·have:=Nat.mul_le_mul_right L.sz h2
         omega
       show ∃ v,(if L.off + p * L.sz≤L.off + k * L.sz + j∧L.off + k * L.sz + j < L.off + p * L.sz + ncs.length then _ else arr[L.off + k * L.sz + j]?)=some v∧_
       rw [if_neg hout]
       obtain ⟨u,u1,u2,u3⟩:=a3 k h1 (by omega) j hj'
       refine ⟨u,u1,?_,u3⟩
       have e:rs'[k][j]=rs[k][j]:=by simp only [rs',h3]
       rw [e]
       exact u2.keep keeps (hr.lt.blks b _ hbl _ (List.getElem_mem h1) _ (List.getElem_mem _))
      ·have hj':j < new[k - p].length:=by rw [fn.sz _ h1];exact hjs
       obtain ⟨u,u1,u2,u3⟩:=fn.val (k - p) h1 j hj'
       have hkp:(k - p) * L.sz + p * L.sz=k * L.sz:=by rw [← Nat.add_mul];congr 1;omega
       have hin:L.off + p * L.sz≤L.off + k * L.sz + j∧L.off + k * L.sz + j < L.off + p * L.sz + ncs.length:=by
        have:=uH h1 hjs
        omega
       show ∃ v,(if L.off + p * L.sz≤L.off + k * L.sz + j∧L.off + k * L.sz + j < L.off + p * L.sz + ncs.length then ncs[L.off + k * L.sz + j - (L.off + p * L.sz)]? else _)=some v∧_
       rw [if_pos hin]
       refine ⟨u,?_,?_,u3⟩
       ·rw [show L.off + k * L.sz + j - (L.off + p * L.sz)=(k - p) * L.sz + j from by omega];exact u1
       ·have e:rs'[k][j]=new[k - p][j]:=by simp only [rs',h4]
        rw [e]
        exact u2.keep keeps (hnlt _ (List.getElem_mem h1) _ (List.getElem_mem _))
     ·show L.off + rs'.length * L.sz≤L.n
      rw [hrl]
      rcases Nat.le_total rs.length (p + new.length) with h | h
      ·rw [Nat.max_eq_right h];exact hfit
      ·rw [Nat.max_eq_left h,← hLlen];exact hla.fits
    ·have hl2:=g2.all L2 h3
     obtain ⟨o1,o2⟩:=hoth L2 h3 hne
     obtain ⟨arr2,el2,c1,c2,c3⟩:=hl2.lies
     refine ⟨⟨arr2,el2,(hheap _ hne).trans c1,c2,fun k hk hkl j hj => ?_⟩,by rw [hrl];have:=hl2.len;omega,hl2.fits,fun k hk=>by rw [o2];exact hszall k hk,fun h=>.inl (hl2.own h),fun h=>by cases h⟩
     rcases uaD hp k hk with ⟨h1,h2,h4⟩ | ⟨h1,h2,h4,h5⟩
     ·have hj':j < rs[k].length:=by rw [hla.sz k h1,← hszall k hk];exact hj
      obtain ⟨u,u1,u2,u3⟩:=c3 k h1 hkl j hj'
      refine ⟨u,u1,?_,u3⟩
      have e:rs'[k][j]=rs[k][j]:=by simp only [rs',h4]
      rw [e]
      exact u2.keep keeps (hr.lt.blks b _ hbl _ (List.getElem_mem h1) _ (List.getElem_mem _))
     ·omega
   ·have:(Ls.map up).map (·.blk)=Ls.map (·.blk):=by
     rw [List.map_map]
     exact List.map_congr_left fun L2 _=>hup L2
    rw [this];exact g2.apart)
  (fun r hr' y hy=>by
   simp only [rs',List.mem_append] at hr'
   rcases hr' with (hm | hm) | hm
   ·exact hr.lt.blks b _ hbl r (List.mem_of_mem_take hm) y hy
   ·exact hnlt r hm y hy
   ·exact hr.lt.blks b _ hbl r (List.mem_of_mem_drop hm) y hy)
 refine ⟨_,w',L',r1,hch.1,hch.2,⟨Ls.map up,?_,hL'mem⟩,rfl,rfl,rfl,rfl,?_,?_⟩
 ·show (if _ then _ else _)=_;rw [if_pos rfl]
 ·show _≤rs'.length;omega
 ·show _≤rs'.length;omega
theorem wbc (hT:wc P T) (hr:HR E w h) {t u ty:TypeId} {ui:TI} (hu:T u=some ui) (hnu:gE ui.desc=true) {s x:AV} {vs vx:Value} (hs:VR E w s vs) (hx:VR E w x vx)
  (hls:Lt h.blks.length h.loops.length s) (hlx:Lt h.blks.length h.loops.length x) (hb:zr T h t s x K) (hstr:∀ ti e ei,T t=some ti→ti.desc=.slice e→T e=some ei→(∃ a,x=.str a)→ei.size=1) :
  VOK P h E w (Builtin.append_ #[t,u] ty #[vs,vx]) K:=by
 unfold zr at hb
 split at hb
 rotate_left
 ·exact hb.elim
 rename_i e tsize tbytes tzero tcmp ht
 split at hb
 rotate_left
 ·exact hb.elim
 rename_i ei new hei hnew
 obtain ⟨⟨hpos,hbpos⟩,hrows,hb⟩:=hb
 obtain ⟨ncs,fn,hlen,hfc⟩:=yam (P:=P) hr hx hnew hrows hpos (hstr _ e ei ht rfl hei)
 have hnlt:∀ r∈new,∀ y∈r,Lt h.blks.length h.loops.length y:=by
  unfold jo at hnew
  split at hnew
  ·injection hnew with hnew;subst hnew
   cases hlx with
   | vs _ _ hl =>
    intro r hr' y hy
    obtain ⟨i,hi,rfl⟩:=List.getElem_of_mem hr'
    obtain ⟨j,hj,rfl⟩:=List.getElem_of_mem hy
    exact hl i hi j hj
  ·injection hnew with hnew;subst hnew;intro r hr' y hy;simp at hr'
  ·injection hnew with hnew;subst hnew
   intro r hr' y hy
   obtain ⟨c,_,rfl⟩:=List.mem_map.1 hr'
   obtain rfl:y=_:=by simpa using hy
   exact .int _ _
  ·split at hnew
   ·rename_i rs g fz hbl
    split at hnew
    ·injection hnew with hnew;subst hnew
     exact fun r hr' y hy=>hr.lt.blks _ _ hbl r (List.mem_of_mem_drop (List.mem_of_mem_take hr')) y hy
    ·cases hnew
   ·cases hnew
  ·cases hnew
 have grow:∀ (base:Option Addr) (sLen sCap:Nat) (ocs:List Value) (ors:List (List AV)),vs=.slice base sLen sCap→Flat E w ei.size ors ocs→ors.length=sLen →
   (∀ r∈ors,∀ y∈r,Lt h.blks.length h.loops.length y)→(∀ w',w'.heap=w.heap→(Builtin.firstCells ei.size sLen (.slice base sLen sCap)).run P w'=.ok ocs.toArray w') →
   sCap < sLen + new.length→(sLen + new.length) * ei.bytes≤140737488355328→K (.ms h.blks.length 0 (sLen + new.length) none) (h.push (.rows (ors ++ new) true false)) →
   VOK P h E w (Builtin.append_ #[t,u] ty #[vs,vx]) K:=by
  intro base sLen sCap ocs ors hvs fo hol holt hfo hg hbd hk
  subst hvs
  obtain ⟨cap,w',zs,hcap,hrun,hw,hzs,ho,hout,htp⟩:=xaD (ty:=ty) hT ht rfl hu hnu hei hfo hfc hlen hg hbd hbpos
  refine uap (e:=e) (more:=zs) (cs:=ocs ++ ncs) (cap:=cap) hr (fo.append fn) (fun r hr' y hy => ?_) (by rw [hw];simp) ho hout htp ?_ (len:=sLen + new.length) (by simp [hol]) hcap (fun k hk=>by cases hk) hrun hk
  ·rcases List.mem_append.1 hr' with hm | hm
   ·exact holt r hm y hy
   ·exact hnlt r hm y hy
  ·have h1:=fo.len
   have h2:=fn.len
   simp only [List.length_append,h1,h2,hzs,hol]
   rw [← Nat.add_mul,← Nat.add_mul]
   congr 1;omega
 have same:∀ (base:Option Addr) (sLen sCap:Nat),vs=.slice base sLen sCap→sLen≤sCap→new.length=0→(∀ a,base=some a→a.spot=none)→K s h→VOK P h E w (Builtin.append_ #[t,u] ty #[vs,vx]) K:=by
  intro base sLen sCap hvs hle hn0 hsp hk
  have hr2:=zam (ty:=ty) (base:=base) (sLen:=sLen) (sCap:=sCap) hT ht rfl hu hnu hei hfc hlen (by omega)
  have hnc:ncs=[]:=List.eq_nil_of_length_eq_zero (by rw [fn.len,hn0,Nat.zero_mul])
  subst hvs
  refine .val hr (v:=.slice base sLen sCap) ?_ hs hls hk
  rw [hr2,hnc,hn0]
  cases base <;> simp [storeCells]
 split at hb
 ·
  cases hs
  split at hb
  ·rename_i hn0
   exact same none 0 0 rfl (Nat.le_refl _) hn0 (fun _ h=>by cases h) hb
  ·rename_i hn0
   obtain ⟨hbd,hk⟩:=hb
   refine grow none 0 0 [] [] rfl ⟨by simp,fun i hi=>by simp at hi,fun i hi=>by simp at hi⟩ rfl (fun r hr'=>by simp at hr') (fun w' _=>by simp [Builtin.firstCells]) (by omega) (by rw [Nat.zero_add];exact hbd) ?_
   rw [Nat.zero_add];exact hk
 ·
  rename_i es capo
  have hs':=hs
  cases hs with
  | vs _ _ B off cap sz vals hlen' hcap hsz hF hh =>
   split at hb
   ·rename_i hn0
    exact same _ _ _ rfl hlen' hn0 (fun a ha=>by injection ha with ha;subst ha;rfl) hb
   ·rename_i hn0
    obtain ⟨⟨c,hc,hcl⟩,hes,hbd,hk⟩:=hb
    obtain rfl:=hcap c hc
    obtain ⟨ocs,fo,_,hfo⟩:=yam (P:=P) (x:=.vs es capo) (new:=es) hr hs' rfl hes hpos (fun ⟨s,h⟩=>by cases h)
    refine grow _ _ _ ocs es rfl fo rfl (fun r hr' y hy => ?_) hfo hcl hbd hk
    cases hls with
    | vs _ _ hl =>
     obtain ⟨i,hi,rfl⟩:=List.getElem_of_mem hr'
     obtain ⟨j,hj,rfl⟩:=List.getElem_of_mem hy
     exact hl i hi j hj
 ·
  rename_i b i len capo
  split at hb
  rotate_left
  ·exact hb.elim
  rename_i rs g hbl
  obtain ⟨Ls,L,c,g1,hL,g2,g3,g4,g5,g6,k0,hk0,hvs⟩:=wH hr hs hbl
  have hla:=g2.all L hL
  split at hb
  ·rename_i hn0
   exact same _ _ _ hvs g4 hn0 (fun a ha=>by injection ha with ha;subst ha;rfl) hb
  ·rename_i hn0
   obtain ⟨hes,hbd,hb⟩:=hb
   have hLsz:0 < len→L.sz=ei.size:=fun hp=>by
    have h0:i < rs.length:=by have:=hla.len;omega
    rw [← hla.sz i h0];exact (hes _ (List.getElem_mem h0)).1
   have window:∃ ocs,Flat E w ei.size ((rs.drop i).take len) ocs∧(∀ w',w'.heap=w.heap→(Builtin.firstCells ei.size len (.slice (some ⟨L.blk,L.off + k0 * L.sz,none⟩) len c)).run P w'=.ok ocs.toArray w'):=by
    rcases Nat.eq_zero_or_pos len with hz | hp
    ·subst hz
     exact ⟨[],⟨by simp,fun i hi=>by simp at hi,fun i hi=>by simp at hi⟩,fun w' _=>jP (by simp) (fun k v hk=>by simp at hk)⟩
    ·obtain rfl:i=k0:=by omega
     obtain ⟨cs,f,hc⟩:=xbo hla g3 (hLsz hp)
     have hwl:((rs.drop i).take len).length=len:=by have:=hla.len;simp;omega
     refine ⟨cs,f,fun w' hw'=>jP (by rw [f.len,hwl]) fun k v hk => ?_⟩
     have:=hc k v hk
     simp only [World.cell?,hw'] at this ⊢
     exact this
   have hwl:((rs.drop i).take len).length=len:=by have:=hla.len;simp;omega
   have hwlt:∀ r∈(rs.drop i).take len,∀ y∈r,Lt h.blks.length h.loops.length y:=fun r hr' y hy=>hr.lt.blks _ _ hbl r (List.mem_of_mem_drop (List.mem_of_mem_take hr')) y hy
   obtain ⟨ocs,fo,hfo⟩:=window
   subst hvs
   split at hb
   ·obtain ⟨⟨rfl,hp0,hlr⟩,hk⟩:=hb
    obtain rfl:k0=0:=by omega
    have hLs:=hLsz hp0
    have hLlen:L.len=rs.length:=by have:=hla.len;omega
    rw [← hLs] at fn
    by_cases hroom:len + new.length≤c
    ·have hmul:(len + new.length) * L.sz≤(0 + c) * L.sz:=Nat.mul_le_mul_right _ (by omega)
     obtain ⟨E',w',L',s1,s2,s3,⟨Ls',s4,s5⟩,s6,s7,s8,s9,s10,s11⟩:=yaF (P:=P) (g':=true) (p:=len) hr hbl g1 g2 hL fn hnlt hLlen (by omega)
      (fun L2 h2 _=>⟨by have:=(g2.all L2 h2).len;omega,by
       have h0:0 < rs.length:=by omega
       rw [← (g2.all L2 h2).sz 0 h0,hla.sz 0 h0]⟩) (by omega) (fun h=>by cases h)
     have e:rs.take len ++ new ++ rs.drop (len + new.length)=rs ++ new:=by
      rw [List.take_of_length_le (by omega),List.drop_eq_nil_of_le (by omega),List.append_nil]
     rw [e] at s2
     have hr2:=zam (ty:=ty) (base:=some ⟨L.blk,L.off + 0 * L.sz,none⟩) (sLen:=len) (sCap:=c) hT ht rfl hu hnu hei hfc hlen hroom
     refine ⟨_,_,E',w',.slice (some ⟨L.blk,L.off + 0 * L.sz,none⟩) (len + new.length) c,?_,hk,.ms _ _ _ _ _ _ _ fun Ls2 h2 => ?_,s2,.ms _ _ _ _ (by simp [Heap.put];exact qA hbl),by simp [Heap.put],Nat.le_refl _,s3⟩
     ·rw [hr2]
      simp only [Addr.add_none,← hLs]
      rw [show L.off + 0 * L.sz + len * L.sz=L.off + len * L.sz from by omega,s1]
      rfl
     ·rw [s4] at h2;injection h2 with h2;subst h2
      refine ⟨L',s5,by omega,hroom,by rw [s7,s8,s9];exact g5,(fun k hk=>by cases hk),⟨_,.inr rfl,by rw [s6,s7,s8]⟩,rfl⟩
    ·
     obtain ⟨cap,w',zs,hcap,hrun,hw,hzs,ho,hout,htp⟩:=xaD (ty:=ty) hT ht rfl hu hnu hei hfo hfc hlen (show c < len + new.length by omega) hbd hbpos
     have hwin:(rs.drop 0).take len=rs:=by rw [List.drop_zero,List.take_of_length_le (by omega)]
     rw [hwin,← hLs] at fo
     have fall:=fo.append fn
     let Ln:Loc:=⟨w.heap.size,0,L.sz,(ocs.toArray ++ ncs.toArray ++ zs).size,(rs ++ new).length⟩
     have hsz1:(ocs.toArray ++ ncs.toArray ++ zs).size=cap * L.sz:=by
      have h1:=fo.len
      have h2:=fn.len
      simp only [Array.size_append,List.size_toArray,h1,h2,hzs,hLs]
      rw [← Nat.add_mul,← Nat.add_mul]
      congr 1;omega
     have hold:∀ B,B < w.heap.size→w'.heap[B]? = w.heap[B]? := fun B hB=>by rw [hw,Array.getElem?_push_lt hB,Array.getElem?_eq_getElem hB]
     have hch:=yaO (E:=E) (w:=w) (w':=w') hr (b:=b) (rs:=rs) (rs':=rs ++ new) (g:=g) (g':=true) (Ls:=Ls) (Ls':=Ln :: Ls)
      hbl g1 ho hout htp (by rw [hw];simp) (fun B hB _=>hold B hB)
      (fun L2 h2=>by
       rcases List.mem_cons.1 h2 with rfl | h2
       ·exact ⟨by rw [hw];simp [Ln],.inr (Nat.le_refl _)⟩
       ·have:=xi hr (.inl ⟨b,Ls,L2,g1,h2,rfl⟩)
        exact ⟨by rw [hw];simp;omega,.inl ⟨L2,h2,rfl⟩⟩)
      (fun L2 h2=>⟨L2,List.mem_cons_of_mem _ h2,rfl,rfl,rfl,rfl,Nat.le_refl _⟩)
      (fun keeps=>by
       refine ⟨(fun h=>by cases h),⟨Ln,by simp,rfl⟩,fun L2 h2 => ?_,?_⟩
       ·rcases List.mem_cons.1 h2 with rfl | h2
        ·refine ⟨⟨_,e,by rw [hw];simp [Ln],rfl,fun k hk _ j hj => ?_⟩,Nat.le_refl _,?_,fall.sz,fun _=>.inr ⟨Ln,by simp,rfl⟩,fun h=>by cases h⟩
         ·obtain ⟨v,v1,v2,v3⟩:=fall.val k hk j hj
          refine ⟨v,?_,v2.keep keeps ?_,v3⟩
          ·have hlt:k * L.sz + j < (ocs ++ ncs).length:=by rw [fall.len];exact uH hk (by rw [← fall.sz k hk];exact hj)
           show (ocs.toArray ++ ncs.toArray ++ zs)[0 + k * L.sz + j]? = some v
           rw [Nat.zero_add,Array.getElem?_append_left (by simpa using hlt)]
           simpa using v1
          ·have hm:=List.getElem_mem hk
           have hm2:=List.getElem_mem hj
           rcases List.mem_append.1 hm with hm | hm
           ·exact hr.lt.blks b _ hbl _ hm _ hm2
           ·exact hnlt _ hm _ hm2
         ·show 0 + (rs ++ new).length * L.sz≤(ocs.toArray ++ ncs.toArray ++ zs).size
          rw [hsz1,Nat.zero_add]
          refine Nat.mul_le_mul_right _ ?_
          simp;omega
        ·have hl2:=g2.all L2 h2
         obtain ⟨arr2,el2,c1,c2,c3⟩:=hl2.lies
         have hB2:L2.blk < w.heap.size:=xi hr (.inl ⟨b,Ls,L2,g1,h2,rfl⟩)
         have hs2:L2.sz=L.sz:=by
          have h0:0 < rs.length:=by omega
          rw [← hl2.sz 0 h0,hla.sz 0 h0]
         refine ⟨⟨arr2,el2,(hold _ hB2).trans c1,c2,fun k hk hkl j hj => ?_⟩,by have:=hl2.len;simp;omega,hl2.fits,fun k hk=>by rw [hs2];exact fall.sz k hk,fun h=>.inl (hl2.own h),fun h=>by cases h⟩
         have hk':k < rs.length:=by have:=hl2.len;omega
         have ek:(rs ++ new)[k]=rs[k]:=List.getElem_append_left hk'
         have hj':j < rs[k].length:=by rw [← ek];exact hj
         obtain ⟨u,u1,u2,u3⟩:=c3 k hk' hkl j hj'
         refine ⟨u,u1,?_,u3⟩
         have e2:(rs ++ new)[k][j]=rs[k][j]:=by simp only [ek]
         rw [e2]
         exact u2.keep keeps (hr.lt.blks b _ hbl _ (List.getElem_mem hk') _ (List.getElem_mem _))
       ·rw [List.map_cons,List.nodup_cons]
        refine ⟨fun hm => ?_,g2.apart⟩
        obtain ⟨L2,h2,e2⟩:=List.mem_map.1 hm
        have:=xi hr (.inl ⟨b,Ls,L2,g1,h2,rfl⟩)
        have e3:L2.blk=w.heap.size:=e2
        omega)
      (fun r hr' y hy=>by
       rcases List.mem_append.1 hr' with hm | hm
       ·exact hr.lt.blks b _ hbl r hm y hy
       ·exact hnlt r hm y hy)
     refine ⟨_,_,_,w',_,hrun,hk,.ms _ _ _ _ _ _ _ fun Ls2 h2 => ?_,hch.1,.ms _ _ _ _ (by simp [Heap.put];exact qA hbl),by simp [Heap.put],Nat.le_refl _,hch.2⟩
     have e0:(E.with b (Ln :: Ls)).ρ b=some (Ln :: Ls):=by show (if _ then _ else _)=_;rw [if_pos rfl]
     rw [e0] at h2;injection h2 with h2;subst h2
     refine ⟨Ln,by simp,by simp [Ln];omega,hcap,?_,(fun k hk=>by cases hk),⟨0,.inr rfl,by simp [Ln]⟩,rfl⟩
     show 0 + (0 + cap) * L.sz≤(ocs.toArray ++ ncs.toArray ++ zs).size
     rw [hsz1];simp
   ·rename_i c'
    obtain rfl:=g6 c' rfl
    rcases hb with ⟨hcl,hil,hk⟩ | ⟨hcl,rfl,hil,hk⟩
    ·exact grow _ _ _ ocs _ rfl fo hwl hwlt hfo hcl hbd hk
    ·obtain rfl:i=k0:=by omega
     obtain ⟨L0,hL0⟩:=g2.one rfl
     have hLL:Ls=[L]:=by
      rw [hL0] at hL ⊢
      obtain rfl:L=L0:=by simpa using hL
      rfl
     have hLlen:L.len=rs.length:=by
      obtain ⟨L2,h2,e⟩:=g2.now
      rw [hLL] at h2
      obtain rfl:L2=L:=by simpa using h2
      exact e
     have hLs:L.sz=ei.size:=by
      have h0:0 < rs.length:=by omega
      rw [← hla.sz 0 h0];exact (hes _ (List.getElem_mem h0)).1
     rw [← hLs] at fn
     have hfits:=hla.fits
     have hmul:(i + len + new.length) * L.sz≤L.len * L.sz:=Nat.mul_le_mul_right _ (by omega)
     obtain ⟨E',w',L',s1,s2,s3,⟨Ls',s4,s5⟩,s6,s7,s8,s9,s10,s11⟩:=yaF (P:=P) (g':=false) (p:=i + len) hr hbl g1 g2 hL fn hnlt hLlen (by omega)
      (fun L2 h2 hne=>by
       rw [hLL] at h2
       obtain rfl:L2=L:=by simpa using h2
       exact absurd rfl hne) (by omega) (fun _=>hLL)
     have hr2:=zam (ty:=ty) (base:=some ⟨L.blk,L.off + i * L.sz,none⟩) (sLen:=len) (sCap:=c) hT ht rfl hu hnu hei hfc hlen hcl
     refine ⟨_,_,E',w',.slice (some ⟨L.blk,L.off + i * L.sz,none⟩) (len + new.length) c,?_,hk,.ms _ _ _ _ _ _ _ fun Ls2 h2 => ?_,s2,.ms _ _ _ _ (by simp [Heap.put];exact qA hbl),by simp [Heap.put],Nat.le_refl _,s3⟩
     ·rw [hr2]
      simp only [Addr.add_none,← hLs]
      rw [show L.off + i * L.sz + len * L.sz=L.off + (i + len) * L.sz from by rw [Nat.add_mul];omega,s1]
      rfl
     ·rw [s4] at h2;injection h2 with h2;subst h2
      exact ⟨L',s5,by omega,hcl,by rw [s7,s8,s9];exact g5,(fun k hk=>by injection hk),⟨_,.inr rfl,by rw [s6,s7,s8]⟩,rfl⟩
 ·exact hb.elim
theorem zbT (hT:wc P T) (hr:HR E w h) {t:TypeId} {l c:AV} {vl vc:Value} (hl:VR E w l vl) (hc:VR E w c vc) (hb:qX T h t l c K):VOK P h E w (Instr.makeSlice t vl vc) K:=by
 unfold qX at hb
 split at hb
 ·rename_i e _ _ _ _ kl l kc c ht
  split at hb
  ·exact hb.elim
  ·rename_i ei hei
   obtain ⟨⟨h0,h1,h2,h3⟩,hsz,hzo,hk⟩:=hb
   cases hl;cases hc
   obtain ⟨_,info,hinfo,hsize,hbytes,z,hz,hz1,hzs,hzone,_⟩:=hT.ok e ei hei
   have hzl:ei.zero.length=ei.size:=by rw [← hz1,← hzs];simp
   have hrun:=run_make (P:=P) w t e info z (hT.ok t _ ht).1 hinfo hz kl kc l c h0 h1 (by rw [hbytes];omega) (by omega)
   have hflat:Flat E w ei.size (List.replicate c.toNat ei.zero) (madeCells z.cells (c.toNat * ei.size)).toList:=by
    refine ⟨by simp [size_madeCells],fun i hi=>by simp [hzl],fun i hi j hj => ?_⟩
    have hi':i < c.toNat:=by simpa using hi
    have hj':j < ei.size:=by simpa [hzl] using hj
    have hjz:j < z.cells.size:=by omega
    refine ⟨z.cells[j],?_,?_,hzone _ (by simp)⟩
    ·have hlt:=uH hi' hj'
     rw [Array.getElem?_toList]
     simp only [madeCells]
     rw [Array.getElem?_map,Array.getElem?_range]
     rw [if_pos hlt]
     have e2:(i * ei.size + j) % z.cells.size=j:=by rw [hzs,Nat.add_comm,Nat.add_mul_mod_self_right,Nat.mod_eq_of_lt hj']
     simp [e2,hjz]
    ·have e:(List.replicate c.toNat ei.zero)[i][j]=ei.zero[j]'(by omega):=by simp
     rw [e]
     exact yaj hz1 j (by omega) hjz
   refine uap (e:=e) (w':=w.alloc (.cells (madeCells z.cells (c.toNat * info.size)) e)) (more := #[]) (cap:=c.toNat) hr hflat (fun r hr' x hx => ?_) ?_ rfl rfl rfl ?_ (len:=l.toNat) (by simp;omega) (by omega) (fun k hk=>by injection hk) hrun hk
   ·obtain rfl:=(List.mem_replicate.1 hr').2
    exact xaj hz1 x hx
   ·show w.heap.push (.cells (madeCells z.cells (c.toNat * info.size)) e (0,0))=_
    rw [hsize,Array.toArray_toList,Array.append_empty]
   ·rw [Array.length_toList,size_madeCells];rfl
 ·exact hb.elim
end ops
end
end Go.Abs

namespace Go.Abs
noncomputable section
variable [Gl]
section ops
variable {P:Program} {T:Tab} {h:Heap} {E:Env} {w:World} {K:AV→Heap→Prop}
inductive PVR (E:Env) (w:World):List (Nat × AV)→List (Nat × Value)→Prop where
 | nil:PVR E w [] []
 | cons (i:Nat) (x:AV) (v:Value) (xs:List (Nat × AV)) (vs:List (Nat × Value)) (h:VR E w x v) (r:PVR E w xs vs):PVR E w ((i,x) :: xs) ((i,v) :: vs)
omit [Gl] in
theorem wb7 (vs:List Value):∀ (k:Nat) (cells:Array Value) (off:Nat),(vs.zipIdx k).foldl (fun cs (x:Value × Nat)=>cs.setIfInBounds (off + x.2) x.1) cells=qp cells (off + k) vs:=by
 induction vs with
 | nil=>intros;rfl
 | cons v vs ih =>
  intro k cells off
  rw [List.zipIdx_cons,List.foldl_cons,qp,ih (k + 1)]
  rfl
theorem ybo (v:Value) (cells:Array Value) (off:Nat):v.cells.zipIdx.foldl (fun cs (c,j)=>cs.setIfInBounds (off + j) c) cells=qp cells off v.cells.toList:=by
 rw [← Array.foldl_toList,Array.toList_zipIdx]
 exact wb7 v.cells.toList 0 cells off
theorem Flat.set {size:Nat} {rs:List (List AV)} {arr:Array Value} (f:Flat E w size rs arr.toList) {i:Nat} {x:AV} {v:Value} (hi:i < rs.length) (hx:VR E w x v) (ho:(xd x).all okc=true)
  (hl:(xd x).length=size):Flat E w size (rs.set i (xd x)) (qp arr (i * size) v.cells.toList).toList:=by
 obtain ⟨hs,hc⟩:=j6 hx ho
 have hvl:v.cells.toList.length=size:=by simp [hs,hl]
 have hal:arr.size=rs.length * size:=by rw [← Array.length_toList,f.len]
 have hfit:i * size + size≤arr.size:=by
  rw [hal]
  have:=Nat.mul_le_mul_right size (show i + 1≤rs.length from hi)
  rw [Nat.add_mul] at this;omega
 have hsz:∀ (k:Nat) (hk:k < (rs.set i (xd x)).length),(rs.set i (xd x))[k].length=size:=fun k hk=>by
  rw [List.getElem_set]
  split
  ·exact hl
  ·exact f.sz k (by simpa using hk)
 refine ⟨by simp [vV,hal],hsz,fun k hk j hj => ?_⟩
 have hk':k < rs.length:=by simpa using hk
 have hjs:j < size:=by rw [← hsz k hk];exact hj
 rw [Array.getElem?_toList,qaa _ _ _ _ (by rw [hvl];exact hfit),hvl]
 by_cases hki:k=i
 ·subst hki
  have e:(rs.set k (xd x))[k][j]=(xd x)[j]'(by rw [hl];exact hjs):=by simp
  rw [if_pos (by omega)]
  have hjv:j < v.cells.size:=by rw [hs,hl];exact hjs
  obtain ⟨c1,c2⟩:=hc j (by rw [hl];exact hjs) hjv
  refine ⟨v.cells[j],?_,by rw [e];exact c1,c2⟩
  rw [show k * size + j - k * size=j from by omega]
  simp [hjv]
 ·have e:(rs.set i (xd x))[k][j]=rs[k][j]'(by rw [f.sz k hk'];exact hjs):=by simp [Ne.symm hki]
  have hout:¬ (i * size≤k * size + j∧k * size + j < i * size + size):=by
   rcases Nat.lt_or_gt_of_ne hki with hlt | hgt
   ·have:=Nat.mul_le_mul_right size (show k + 1≤i from hlt)
    rw [Nat.add_mul] at this
    omega
   ·have:=Nat.mul_le_mul_right size (show i + 1≤k from hgt)
    rw [Nat.add_mul] at this
    omega
  rw [if_neg hout]
  obtain ⟨u,u1,u2,u3⟩:=f.val k hk' j (by rw [f.sz k hk'];exact hjs)
  rw [Array.getElem?_toList] at u1
  exact ⟨u,u1,by rw [e];exact u2,u3⟩
theorem ubp {size:Nat}:∀ {ps:List (Nat × AV)} {vs:List (Nat × Value)} (_:PVR E w ps vs) {rs rs':List (List AV)} {arr:Array Value} (_:Flat E w size rs arr.toList)
  (_:zy size rs ps=some rs'),∃ arr',Instr.fill (fun i=>some (i * size,size)) arr vs=some arr'∧Flat E w size rs' arr'.toList
 | _,_,.nil,rs,rs',arr,f,hf=>by
  simp only [zy,Option.some.injEq] at hf
  exact ⟨arr,rfl,hf ▸ f⟩
 | _,_,.cons i x v xs vs hx hr,rs,rs',arr,f,hf=>by
  simp only [zy] at hf
  split at hf
  ·rename_i hc
   simp only [Bool.and_eq_true,beq_iff_eq,Nat.blt_eq] at hc
   obtain ⟨⟨hl,ho⟩,hi⟩:=hc
   have f':=f.set hi hx ho hl
   obtain ⟨arr',h1,h2⟩:=ubp hr f' hf
   refine ⟨arr',?_,h2⟩
   obtain ⟨hs,_⟩:=j6 hx ho
   have hal:arr.size=rs.length * size:=by rw [← Array.length_toList,f.len]
   have hfit:i * size + size≤arr.size:=by
    rw [hal]
    have:=Nat.mul_le_mul_right size (show i + 1≤rs.length from hi)
    rw [Nat.add_mul] at this;omega
   have hcond:(v.cells.size≠size || i * size + v.cells.size > arr.size:Bool)=false:=by
    rw [hs,hl];simp;omega
   simp only [Instr.fill]
   rw [if_neg (by rw [hcond];simp),ybo]
   exact h1
  ·cases hf
theorem waQ {n m size:Nat}:∀ {ps:List (Nat × AV)} {rs rs':List (List AV)} (_:∀ p∈ps,Lt n m p.2) (_:∀ r∈rs,∀ x∈r,Lt n m x) (_:zy size rs ps=some rs'),∀ r∈rs',∀ x∈r,Lt n m x
 | [],rs,rs',_,hr,hf=>by simp only [zy,Option.some.injEq] at hf;exact hf ▸ hr
 | (i,x) :: ps,rs,rs',hp,hr,hf=>by
  simp only [zy] at hf
  split at hf
  ·refine waQ (fun p hp'=>hp p (List.mem_cons_of_mem _ hp')) (fun r hr' y hy => ?_) hf
   rcases List.mem_or_eq_of_mem_set hr' with h | rfl
   ·exact hr r h y hy
   ·exact qag (hp _ (List.mem_cons_self ..)) y hy
  ·cases hf
theorem gbz {size:Nat} {z:Array Value} {l:List AV} (n:Nat) (hz1:z.toList.map ofV=l) (hzs:z.size=size) (hone:∀ c∈z.toList,one c=true) :
  Flat E w size (List.replicate n l) ((Array.range (n * size)).map (z[· % z.size]!)).toList:=by
 have hzl:l.length=size:=by rw [← hz1,← hzs];simp
 refine ⟨by simp,fun i hi=>by simp [hzl],fun i hi j hj => ?_⟩
 have hi':i < n:=by simpa using hi
 have hj':j < size:=by simpa [hzl] using hj
 have hjz:j < z.size:=by omega
 refine ⟨z[j],?_,?_,hone _ (by simp)⟩
 ·have hlt:=uH hi' hj'
  rw [Array.getElem?_toList,Array.getElem?_map,Array.getElem?_range,if_pos hlt]
  have e2:(i * size + j) % z.size=j:=by rw [hzs,Nat.add_comm,Nat.add_mul_mod_self_right,Nat.mod_eq_of_lt hj']
  simp [e2,hjz]
 ·have e:(List.replicate n l)[i][j]=l[j]'(by omega):=by simp
  rw [e]
  subst hz1
  simp only [List.getElem_map,Array.getElem_toList]
  exact gao _ _ _
theorem jbU (hT:wc P T) (hr:HR E w h) {t:TypeId} {len:Nat} {ps:List (Nat × AV)} {vs:Array (Nat × Value)} (hp:PVR E w ps vs.toList) (hlt:∀ p∈ps,Lt h.blks.length h.loops.length p.2)
  (hb:wT T h t len ps K):VOK P h E w (Instr.buildSlice t len vs) K:=by
 unfold wT at hb
 split at hb
 ·rename_i e _ _ _ _ ht
  split at hb
  ·exact hb.elim
  ·rename_i ei hei
   obtain ⟨hlen,hpos,hzo,hb⟩:=hb
   split at hb
   ·exact hb.elim
   ·rename_i rows hrows
    obtain ⟨z,z1,z2,z3,z4⟩:=qaC (w:=w) hT hei
    have hlim:¬ (16777216 < len * ei.size):=by omega
    have zlt:∀ r∈List.replicate len ei.zero,∀ x∈r,Lt h.blks.length h.loops.length x:=fun r hr' x hx=>by
     obtain rfl:=(List.mem_replicate.1 hr').2
     exact xaj z2 x hx
    have go:∀ (zc:Array Value),(len * ei.size=0∧zc = #[]∨len * ei.size≠0∧zc=z.cells) →
      Flat E w ei.size (List.replicate len ei.zero) ((Array.range (len * ei.size)).map (zc[· % zc.size]!)).toList→VOK P h E w (Instr.buildSlice t len vs) K:=by
     intro zc hzc hflat
     obtain ⟨arr',f1,f2⟩:=ubp hp hflat hrows
     have hrl:rows.length * ei.size=arr'.size:=by rw [← Array.length_toList,f2.len]
     have hrowlen:rows.length=len:=by
      have:∀ {ps:List (Nat × AV)} {rs rs':List (List AV)},zy ei.size rs ps=some rs'→rs'.length=rs.length:=by
       intro ps
       induction ps with
       | nil=>intro rs rs' hf;simp only [zy,Option.some.injEq] at hf;rw [hf]
       | cons p ps ih =>
        intro rs rs' hf
        obtain ⟨i,x⟩:=p
        simp only [zy] at hf
        split at hf
        ·rw [ih hf];simp
        ·cases hf
      rw [this hrows];simp
     have hrun:(Instr.buildSlice t len vs).run P w=.ok (.slice (some ⟨w.heap.size,0,none⟩) len len) (w.alloc (.cells arr' e)):=by
      rcases hzc with ⟨hz,rfl⟩ | ⟨hz,rfl⟩
      ·simp [Instr.buildSlice,jf hT ht,zq hT hei,hz,newRow]
       simp [hz] at f1
       simp [f1]
      ·simp [Instr.buildSlice,jf hT ht,zq hT hei,hlim,hz,z1,f1,newRow]
     rcases hb with hb | hb
     ·refine uap (e:=e) (w':=w.alloc (.cells arr' e)) (cs:=arr'.toList) (more := #[]) (cap:=len) hr f2 (waQ hlt zlt hrows) ?_ rfl rfl rfl ?_ (len:=len) (by omega) (Nat.le_refl _) (fun k hk=>by injection hk) hrun hb
      ·show w.heap.push (.cells arr' e (0,0))=_
       rw [Array.toArray_toList,Array.append_empty]
      ·rw [Array.length_toList,← hrl,hrowlen];rfl
     ·subst hrowlen
      exact xbX (e:=e) (w':=w.alloc (.cells arr' e)) (cs:=arr'.toList) hr f2 (waQ hlt zlt hrows) (by show w.heap.push (.cells arr' e (0,0))=_;rw [Array.toArray_toList]) rfl rfl rfl hrun hb
    by_cases hz:len * ei.size=0
    ·have hl0:len=0:=by
      rcases Nat.eq_zero_or_pos len with h | h
      ·exact h
      ·have:=Nat.mul_pos h hpos;omega
     subst hl0
     refine go #[] (.inl ⟨hz,rfl⟩) ?_
     exact ⟨by simp,fun i hi=>by simp at hi,fun i hi=>by simp at hi⟩
    ·exact go z.cells (.inr ⟨hz,rfl⟩) (gbz len z2 z3 z4)
 ·exact hb.elim
theorem xaQ {place:Nat→Option (Nat × Nat)} {placeA:Nat→Option (Nat × Nat)} (hpl:∀ i x,placeA i=some x→place i=some x) :
  ∀ {ps:List (Nat × AV)} {vs:List (Nat × Value)} (_:PVR E w ps vs) {cs cs':List AV} {arr:Array Value} (_:cs.length=arr.size) (_:∀ (i:Nat) (hi:i < cs.length) (hj:i < arr.size),VR E w cs[i] arr[i])
   (_:zO placeA cs ps=some cs'),∃ arr',Instr.fill place arr vs=some arr'∧cs'.length=arr'.size∧∀ (i:Nat) (hi:i < cs'.length) (hj:i < arr'.size),VR E w cs'[i] arr'[i]
 | _,_,.nil,cs,cs',arr,hl,hv,hf=>by
  simp only [zO,Option.some.injEq] at hf
  subst hf
  exact ⟨arr,rfl,hl,hv⟩
 | _,_,.cons i x v xs vs hx hr,cs,cs',arr,hl,hv,hf=>by
  simp only [zO] at hf
  split at hf
  ·cases hf
  ·rename_i off size hp
   split at hf
   ·rename_i hc
    simp only [Bool.and_eq_true,beq_iff_eq,Nat.ble_eq] at hc
    obtain ⟨⟨hcl,hfit⟩,ho⟩:=hc
    obtain ⟨hs,hcv⟩:=j6 hx ho
    have hvl:v.cells.toList.length=size:=by simp [hs,hcl]
    have hlen':(cs.take off ++ xd x ++ cs.drop (off + size)).length=(qp arr off v.cells.toList).size:=by
     rw [vV];simp only [List.length_append,List.length_take,List.length_drop,hcl];omega
    obtain ⟨arr',h1,h2,h3⟩:=xaQ hpl hr hlen' (fun k hk hj=>by
     have hk2:k < arr.size:=by rw [vV] at hj;exact hj
     have hg:=qaa v.cells.toList arr off k (by rw [hvl];omega)
     rw [Array.getElem?_eq_getElem hj,hvl] at hg
     have hm:min off cs.length=off:=by omega
     rcases Nat.lt_or_ge k off with c1 | c1
     ·rw [if_neg (by omega),Array.getElem?_eq_getElem hk2] at hg
      injection hg with hg
      rw [hg,List.getElem_append_left (by simp only [List.length_append,List.length_take];omega),List.getElem_append_left (by simp only [List.length_take];omega)]
      simp only [List.getElem_take]
      exact hv k (by omega) hk2
     ·rcases Nat.lt_or_ge k (off + size) with c2 | c2
      ·have hkv:k - off < v.cells.size:=by omega
       rw [if_pos (by omega),Array.getElem?_toList,Array.getElem?_eq_getElem hkv] at hg
       injection hg with hg
       rw [hg,List.getElem_append_left (by simp only [List.length_append,List.length_take];omega),List.getElem_append_right (by simp only [List.length_take];omega)]
       simp only [List.length_take,hm]
       exact (hcv (k - off) (by omega) hkv).1
      ·rw [if_neg (by omega),Array.getElem?_eq_getElem hk2] at hg
       injection hg with hg
       rw [hg,List.getElem_append_right (by simp only [List.length_append,List.length_take];omega)]
       simp only [List.getElem_drop,List.length_append,List.length_take,hm]
       have e:off + size + (k - (off + (xd x).length))=k:=by omega
       simp only [e]
       exact hv k (by omega) hk2) hf
    refine ⟨arr',?_,h2,h3⟩
    have hcond:(v.cells.size≠size || off + v.cells.size > arr.size:Bool)=false:=by
     rw [hs,hcl];simp;omega
    simp only [Instr.fill,hpl i _ hp]
    rw [if_neg (by rw [hcond];simp),ybo]
    exact h1
   ·cases hf
theorem jbp {n m:Nat} {place:Nat→Option (Nat × Nat)}:∀ {ps:List (Nat × AV)} {cs cs':List AV} (_:∀ p∈ps,Lt n m p.2) (_:∀ x∈cs,Lt n m x) (_:zO place cs ps=some cs'),∀ x∈cs',Lt n m x
 | [],cs,cs',_,hr,hf=>by simp only [zO,Option.some.injEq] at hf;exact hf ▸ hr
 | (i,x) :: ps,cs,cs',hp,hr,hf=>by
  simp only [zO] at hf
  split at hf
  ·cases hf
  ·split at hf
   ·refine jbp (fun p hp'=>hp p (List.mem_cons_of_mem _ hp')) (fun y hy => ?_) hf
    simp only [List.mem_append] at hy
    rcases hy with (h | h) | h
    ·exact hr y (List.mem_of_mem_take h)
    ·exact qag (hp _ (List.mem_cons_self ..)) y h
    ·exact hr y (List.mem_of_mem_drop h)
   ·cases hf
omit [Gl] in
theorem wa5 {α β:Type} (f:α→Sem β) (g:α→β):∀ (l:List α),(∀ a∈l,(f a).run P w=.ok (g a) w)→(l.mapM f).run P w=.ok (l.map g) w
 | [],_=>by simp
 | a :: l,h=>by
  have h1:=h a (List.mem_cons_self ..)
  have h2:=wa5 f g l (fun x hx=>h x (List.mem_cons_of_mem _ hx))
  simp [List.mapM_cons,h1,h2]
theorem qbU (hT:wc P T) (hr:HR E w h) {t:TypeId} {ps:List (Nat × AV)} {vs:Array (Nat × Value)} {r:AV} (hp:PVR E w ps vs.toList) (hlt:∀ p∈ps,Lt h.blks.length h.loops.length p.2)
  (hb:zaw T t ps=some r) (hk:K r h):VOK P h E w (Instr.build t vs) K:=by
 unfold zaw at hb
 split at hb
 ·cases hb
 ·rename_i ti ht
  split at hb
  ·rename_i hagg
   obtain ⟨cs',hf,rfl⟩:=Option.map_eq_some_iff.1 hb
   obtain ⟨z,z1,z2,z3,z4⟩:=qaC (w:=w) hT ht
   have hzl:ti.zero.length=z.cells.size:=by rw [← z2];simp
   have hlt':Lt h.blks.length h.loops.length (.agg cs'):=.agg _ fun i hi=>jbp hlt (xaj z2) hf _ (List.getElem_mem hi)
   cases hd:ti.desc <;> rw [hd] at hagg hf <;> simp only [vbh,Bool.false_eq_true] at hagg
   case array n e =>
    simp only [waG] at hf
    obtain ⟨ei,hei⟩:=Option.isSome_iff_exists.1 hagg
    have hpl:∀ i x,(match T e with | none=>none | some ei=>some (i * ei.size,ei.size))=some x→(some (i * ei.size,ei.size):Option (Nat × Nat))=some x:=by
     intro i x hx;rw [hei] at hx;exact hx
    obtain ⟨arr',f1,f2,f3⟩:=xaQ (place:=fun i=>some (i * ei.size,ei.size)) hpl hp hzl (yaj z2) hf
    refine .val hr (v:=.agg arr') ?_ (.agg _ _ f2 f3) hlt' hk
    simp only [Instr.build,Sem.run_bind,z1,Result.andThen_ok,jf hT ht,hd,zq hT hei,f1]
    rfl
   case struct fs =>
    simp only [waG] at hf
    have hsz:∀ f∈fs.toList,(do pure (f.offset,← sizeOf f.type):Sem (Nat × Nat)).run P w=.ok (f.offset,P.cellsOf f.type) w:=fun f hf=>by
     obtain ⟨fi,hfi⟩:=Option.isSome_iff_exists.1 (List.all_eq_true.1 hagg f hf)
     obtain ⟨_,info,hinfo,hsize,_⟩:=hT.ok _ _ hfi
     simp [zq hT hfi,Program.cellsOf,hinfo,hsize]
    have hmap:(fs.mapM fun f=>(do pure (f.offset,← sizeOf f.type):Sem (Nat × Nat))).run P w=.ok (fs.toList.map fun f=>(f.offset,P.cellsOf f.type)).toArray w:=by
     rw [Array.mapM_eq_mapM_toList]
     simp only [Sem.run_map]
     rw [wa5 _ (fun f:Field=>(f.offset,P.cellsOf f.type)) fs.toList hsz]
     rfl
    have hpl:∀ (i:Nat) (x:Nat × Nat),(match fs[i]? with | none=>none | some (fd:Field)=>match T fd.type with | none=>none | some fi=>some (fd.offset,fi.size))=some x →
      ((fs.toList.map fun f=>(f.offset,P.cellsOf f.type)).toArray[i]?)=some x:=by
     intro i x hx
     split at hx
     ·cases hx
     ·rename_i fd hfd
      split at hx
      ·cases hx
      ·rename_i fi hfi
       injection hx with hx;subst hx
       obtain ⟨_,info,hinfo,hsize,_⟩:=hT.ok _ _ hfi
       simp [hfd,Program.cellsOf,hinfo,hsize]
    obtain ⟨arr',f1,f2,f3⟩:=xaQ hpl hp hzl (yaj z2) hf
    refine .val hr (v:=.agg arr') ?_ (.agg _ _ f2 f3) hlt' hk
    simp only [Instr.build,Sem.run_bind,z1,Result.andThen_ok,jf hT ht,hd,hmap,f1]
    rfl
  ·cases hb
end ops
end
end Go.Abs
