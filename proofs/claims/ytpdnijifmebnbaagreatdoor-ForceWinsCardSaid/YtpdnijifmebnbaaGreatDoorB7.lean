/-
  Steps to a law of this program: AbsOps9, AbsMove, AbsIns, AbsOpsC, AbsOpsM.
  Conditions: none.
-/
import Derived.Test.YtpdnijifmebnbaaGreatDoorB6
import Derived.Laws.IdiomStrings
import Derived.Test.YtpdnijifmebnbaaGreatDoorB1
import Derived.Test.YtpdnijifmebnbaaGreatDoorB2
set_option linter.unusedVariables false
set_option linter.unusedSimpArgs false
set_option linter.unusedSectionVars false
namespace Go.Abs
noncomputable section
variable [Gl]
def z7:List (List AV)→Option (List UInt8)
 | []=>some []
 | row :: r=>match row with
  | [.int .u8 (.ofNat m)]=>(match Nat.blt m 256 with
   | true=>(match z7 r with | some s=>some (UInt8.ofNat m :: s) | none=>none)
   | false=>none)
  | _=>none
omit [Gl] in
theorem ubw:∀ {rows:List (List AV)} {s:List UInt8},z7 rows=some s→rows=s.map fun c=>[.int .u8 c.toNat]
 | [],s,h=>by injection h with h;subst h;rfl
 | row :: r,s,h=>by
  unfold z7 at h
  split at h
  ·rename_i m
   split at h
   ·rename_i hm
    rw [Nat.blt_eq] at hm
    split at h
    ·rename_i s' hs
     injection h with h;subst h
     rw [ubw hs,List.map_cons]
     have:(UInt8.ofNat m).toNat=m:=by simp;omega
     rw [this]
     rfl
    ·cases h
   ·cases h
  ·cases h
def qaB:AV→Bool
 | .vs _ _ | .nils | .ms _ _ _ _=>true
 | _=>false
def xT (T:Tab) (h:Heap) (src dst:TypeId) (x:AV) (K:AV→Heap→Prop):Prop :=
 match T src,T dst with
 | some si,some di =>
  match si.desc,di.desc with
  | .string,.slice e =>
   match T e,x with
   | some ei,.str s=>ei.desc=.int .u8∧K (.vs (s.map fun c=>[.int .u8 c.toNat]) none) h
   | _,_=>False
  | .slice e,.string =>
   match T e,jo h x with
   | some ei,some rows=>ei.desc=.int .u8∧qaB x=true∧∃ s,z7 rows=some s∧K (.str s) h
   | _,_=>False
  | _,_=>False
 | _,_=>False
omit [Gl] in
theorem zb5 (w:World) (X:Obj):Grows w (w.drew.alloc X):=by
 have hh:(w.drew.alloc X).heap=w.heap.push X:=rfl
 refine ⟨by rw [hh,Array.size_push];omega,rfl,rfl,rfl,fun B hB => ?_⟩
 rw [hh,Array.getElem?_push_lt hB,Array.getElem?_eq_getElem hB]
omit [Gl] in
theorem wch (w:World) (X:Obj):(w.drew.alloc X).heap[w.heap.size]? = some X:=by
 have hh:(w.drew.alloc X).heap=w.heap.push X:=rfl
 rw [hh,Array.getElem?_push_size]
section ops
variable {P:Program} {T:Tab} {h:Heap} {E:Env} {w:World} {K:AV→Heap→Prop}
theorem vbU (hT:wc P T) (hr:HR E w h) {src dst:TypeId} {x:AV} {v:Value} (hx:VR E w x v) (hb:xT T h src dst x K):VOK P h E w (convert src dst v) K:=by
 unfold xT at hb
 split at hb
 ·rename_i si di hs hd
  have us:=(hT.ok _ _ hs).1
  have ud:=(hT.ok _ _ hd).1
  split at hb
  ·rename_i e hsd hdd
   split at hb
   ·rename_i ei s hei
    obtain ⟨he,hk⟩:=hb
    have ue:=(hT.ok _ _ hei).1
    rw [hsd] at us;rw [hdd] at ud;rw [he] at ue
    cases hx
    have hrun:=run_bytes_of_string w src dst e ⟨s.toArray⟩ us ud ue
    have g:=zb5 w (.cells (bytesRow ⟨s.toArray⟩ (grownCap w (⟨s.toArray⟩:ByteArray).size 0 e)) e ((bytesRow ⟨s.toArray⟩ (grownCap w (⟨s.toArray⟩:ByteArray).size 0 e)).size,(bytesRow ⟨s.toArray⟩ (grownCap w (⟨s.toArray⟩:ByteArray).size 0 e)).size + 1))
    obtain ⟨x1,x2⟩:=g.ext hr h.blks.length h.loops.length
    have hsz:(⟨s.toArray⟩:ByteArray).size=s.length:=wV s
    have hcap:=grownCap_ge w s.length 0 e
    refine ⟨_,h,E,_,_,hrun,hk,?_,x2,.vs _ _ fun i hi j hj=>by simp only [List.getElem_map] at hj ⊢;simp only [List.getElem_singleton];exact .int _ _,Nat.le_refl _,Nat.le_refl _,x1⟩
    rw [hsz]
    have hl:s.length=(s.map fun c=>[AV.int .u8 c.toNat]).length:=by simp
    rw [hl]
    refine .vs _ none w.heap.size 0 _ 1 (fun i _=>.int .u8 (s.getD i 0).toNat) (by rw [← hl];exact hcap) (fun k hk=>by cases hk) (fun i hi=>by simp) (fun i hi j hj => ?_) (fun i hi j hj => ?_)
    ·have hi':i < s.length:=by simpa using hi
     have hj0:j=0:=by simpa using hj
     subst hj0
     refine ⟨fun hF=>absurd (hr.inside _ hF) (Nat.lt_irrefl _),?_⟩
     have hnew:=fun X=>wch w X
     rw [← hl]
     simp only [World.cell?,hnew]
     have hi2:i < ((s.map fun b=>Value.int .u8 (b.toNat:Int)).toArray).size:=by simpa using hi'
     simp [bytesRow,hi']
     rw [Array.getElem?_append_left hi2]
     simp [hi']
    ·have hi':i < s.length:=by simpa using hi
     simp only [List.getElem_map] at hj ⊢
     have hj0:j=0:=by simpa using hj
     subst hj0
     simp [hi']
     exact .int _ _
   ·exact hb.elim
  ·rename_i e hsd hdd
   split at hb
   ·rename_i ei rows hei hrows
    obtain ⟨he,hsl,s,hby,hk⟩:=hb
    have ue:=(hT.ok _ _ hei).1
    rw [hsd] at us;rw [hdd] at ud;rw [he] at ue
    have hrs:=ubw hby
    refine .val hr (v:=.string ⟨s.toArray⟩) ?_ (.str _) (.str _) hk
    cases x <;> simp only [qaB,Bool.false_eq_true] at hsl
    ·
     cases hx
     simp only [jo,Option.some.injEq] at hrows
     subst hrows
     simp only [z7,Option.some.injEq] at hby
     subst hby
     rw [run_convert_bytes_string w src dst e none 0 0 us ue ud]
     simp [Conv.bytesToString]
     rfl
    ·rename_i es capo
     simp only [jo,Option.some.injEq] at hrows
     subst hrows
     cases hx with
     | vs _ _ B off cap sz vals hlen hcap hsz hF hh =>
      have hl:es.length=s.length:=by rw [hrs];simp
      rw [hl]
      refine run_convert_bytes_back w src dst e ⟨B,off,none⟩ cap s us ue ud fun j hj => ?_
      have hj':j < es.length:=by omega
      have hrow:es[j]=[.int .u8 s[j].toNat]:=by simp only [hrs,List.getElem_map]
      have h0:0 < es[j].length:=by rw [hrow];simp
      have hs1:sz=1:=by rw [← hsz j hj',hrow];rfl
      have h1:=(hF j hj' 0 h0).2
      have h2:=hh j hj' 0 h0
      have h3:es[j][0]=.int .u8 s[j].toNat:=by simp only [hrow,List.getElem_cons_zero]
      rw [h3] at h2
      rw [Addr.add_none]
      rw [hs1,Nat.mul_one,Nat.add_zero] at h1
      rw [h1]
      generalize vals j 0=v at h2
      cases h2;rfl
    ·rename_i b i len capo
     simp only [jo] at hrows
     split at hrows
     ·rename_i rs g fz hbl
      split at hrows
      ·rename_i hle
       injection hrows with hrows
       obtain ⟨Ls,L,c,g1,hL,g2,g3,g4,g5,g6,k0,hk0,rfl⟩:=wH hr hx hbl
       have hla:=g2.all L hL
       obtain ⟨arr,el,a1,a2,a3⟩:=hla.lies
       have hl:len=s.length:=by
        have:=congrArg List.length hrs
        rw [← hrows] at this
        simp at this;omega
       rw [hl]
       refine run_convert_bytes_back w src dst e ⟨L.blk,L.off + k0 * L.sz,none⟩ c s us ue ud fun j hj => ?_
       obtain rfl:i=k0:=by omega
       have hj':i + j < rs.length:=by omega
       have hrow:rs[i + j]=[.int .u8 s[j].toNat]:=by
        have e1:((rs.drop i).take len)[j]'(by simp;omega)=rs[i + j]:=by simp
        rw [← e1]
        have e2:((rs.drop i).take len)=s.map fun c=>[AV.int .u8 c.toNat]:=hrows.trans hrs
        simp only [e2,List.getElem_map]
       have h0:0 < rs[i + j].length:=by rw [hrow];simp
       have hs1:L.sz=1:=by rw [← hla.sz _ hj',hrow];rfl
       obtain ⟨v,b1,b2,_⟩:=a3 (i + j) hj' (by omega) 0 h0
       have h3:rs[i + j][0]=.int .u8 s[j].toNat:=by simp only [hrow,List.getElem_cons_zero]
       rw [h3] at b2
       rw [Addr.add_none]
       rw [hs1,Nat.mul_one,Nat.add_zero] at b1
       rw [hs1,Nat.mul_one,Nat.add_assoc]
       simp only [World.cell?,a1]
       rw [b1]
       cases b2;rfl
      ·cases hrows
     ·cases hrows
   ·exact hb.elim
  ·exact hb.elim
 ·exact hb.elim
end ops
end
end Go.Abs

namespace Go.Abs
noncomputable section
variable [Gl]
def Heap.kill (h:Heap) (b:Nat):Heap:={ h with blks:=h.blks.set b none }
omit [Gl] in
theorem zG (h:Heap) (c b:Nat):(h.kill c).blk? b=if b=c then none else h.blk? b:=by
 unfold Heap.kill Heap.blk?
 simp only [List.getElem?_set]
 by_cases hb:c=b
 ·subst hb
  simp only [if_true]
  split <;> rfl
 ·rw [if_neg hb,if_neg (fun e=>hb e.symm)]
def vC (h:Heap) (r:AV) (K:AV→Heap→Prop):Prop :=
 match r with
 | .ms b 0 n none =>
  match h.blk? b with
  | some (.rows rs _ false)=>n=rs.length∧K (.ms h.blks.length 0 n none) ((h.kill b).push (.rows rs false false))
  | _=>False
 | _=>False
def Env.move (E:Env) (b B:Nat) (L:Loc):Env:={ E with ρ:=fun c=>if c=B then some [L] else if c=b then none else E.ρ c }
theorem xb4 {E:Env} {w:World} {h:Heap} (hr:HR E w h) {b:Nat} {rs:List (List AV)} {g:Bool} {Ls:List Loc} {L:Loc}
  (hb:h.blk? b=some (.rows rs g false)) (hLs:E.ρ b=some Ls) (hL:L∈Ls) (hlen:L.len=rs.length) (n m:Nat) (hn:n≤h.blks.length) :
  HR (E.move b h.blks.length L) w ((h.kill b).push (.rows rs false false))∧Ext n m E w (E.move b h.blks.length L) w:=by
 have hblt:b < h.blks.length:=qA hb
 have hklen:(h.kill b).blks.length=h.blks.length:=by simp [Heap.kill]
 have hB:(E.move b h.blks.length L).ρ h.blks.length=some [L]:=by simp [Env.move]
 have hb0:(E.move b h.blks.length L).ρ b=none:=by simp [Env.move];omega
 have ho:∀ c,c≠h.blks.length→c≠b→(E.move b h.blks.length L).ρ c=E.ρ c:=fun c h1 h2=>by simp [Env.move,h1,h2]
 have keeps:∀ m,Keeps h.blks.length m E w (E.move b h.blks.length L) w:=fun m=>by
  refine ⟨fun B o v a b=>⟨a,b⟩,fun c hc Ls' hLs' => ?_,fun _ _ _ h=>h⟩
  by_cases hcb:c=b
  ·rw [hcb,hb0] at hLs';cases hLs'
  ·rw [ho c (by omega) hcb] at hLs'
   exact ⟨Ls',hLs',fun L hL=>⟨L,hL,rfl,rfl,rfl,rfl,Nat.le_refl _⟩⟩
 have hfoot:∀ B,zf (E.move b h.blks.length L) B→zf E B:=by
  rintro B (⟨c,Ls',L',h1,h2,rfl⟩ | ⟨l,h1⟩)
  ·by_cases hc:c=h.blks.length
   ·subst hc;rw [hB] at h1;injection h1 with h1;subst h1
    obtain rfl:L'=L:=by simpa using h2
    exact .inl ⟨b,Ls,L',hLs,hL,rfl⟩
   ·by_cases hcb:c=b
    ·subst hcb;rw [hb0] at h1;cases h1
    ·rw [ho c hc hcb] at h1;exact .inl ⟨c,Ls',L',h1,h2,rfl⟩
  ·exact .inr ⟨l,h1⟩
 refine uy (B:=Ext ..) ⟨(Keeps.refl n m E w).trans hn (Nat.le_refl _) (keeps m),Nat.le_refl _,rfl,rfl,rfl,fun _ _ _=>rfl,fun _ _ h=>.inl h,fun B _ h=>hfoot B h⟩ fun hx => ?_
 obtain ⟨Ls0,h1,h2⟩:=hr.rows b rs g false hb
 rw [hLs] at h1;injection h1 with h1;subst h1
 have blk:∀ c,((h.kill b).push (.rows rs false false)).blk? c=if c=h.blks.length then some (.rows rs false false) else if c=b then none else h.blk? c:=fun c=>by
  rw [gF,hklen,zG]
 have loc:∀ {L':Loc} {rs':List (List AV)} {fz:Bool} {c:Nat} {g':Bool},h.blk? c=some (.rows rs' g' fz)→j8 E w L' rs' fz→j8 (E.move b h.blks.length L) w L' rs' fz:=fun hc hl=>by
  obtain ⟨arr,el,a1,a2,a3⟩:=hl.lies
  refine ⟨⟨arr,el,a1,a2,fun i hi hi' j hj => ?_⟩,hl.len,hl.fits,hl.sz,hl.own,hl.free⟩
  obtain ⟨v,b1,b2,b3⟩:=a3 i hi hi' j hj
  exact ⟨v,b1,b2.keep (keeps h.loops.length) (hr.lt.blks _ _ hc _ (List.getElem_mem hi) _ (List.getElem_mem hj)),b3⟩
 refine ⟨fun c hc => ?_,fun c rs' g' fz hc => ?_,fun c es hc => ?_,fun c c' L1s L2s L1 L2 hne g1 g2 m1 m2 hF => ?_,hr.deadl,fun l r hl => ?_,hr.lapart,?_,hr.inside,hr.globs.ext hx⟩
 ·rw [blk] at hc
  split at hc
  ·cases hc
  ·rename_i hcB
   split at hc
   ·rename_i hcb;rw [hcb];exact hb0
   ·rename_i hcb;rw [ho c hcB hcb];exact hr.dead c hc
 ·rw [blk] at hc
  split at hc
  ·rename_i hcB
   injection hc with hc;injection hc with e1 e2 e3
   subst hcB;subst e1;subst e2;subst e3
   refine ⟨[L],hB,fun _=>⟨L,rfl⟩,⟨L,by simp,hlen⟩,fun L' hL' => ?_,by simp⟩
   obtain rfl:L'=L:=by simpa using hL'
   exact loc hb (h2.all L' hL)
  ·rename_i hcB
   split at hc
   ·cases hc
   ·rename_i hcb
    obtain ⟨Ls',k1,k2⟩:=hr.rows c rs' g' fz hc
    exact ⟨Ls',by rw [ho c hcB hcb];exact k1,k2.one,k2.now,fun L' hL'=>loc hc (k2.all L' hL'),k2.apart⟩
 ·rw [blk] at hc
  split at hc
  ·injection hc with hc;cases hc
  ·rename_i hcB
   split at hc
   ·cases hc
   ·rename_i hcb
    obtain ⟨Ls',k1,⟨L',ces,clock,rfl,k3,k4,k5,k6⟩⟩:=hr.maps c es hc
    refine ⟨[L'],by rw [ho c hcB hcb];exact k1,⟨L',ces,clock,rfl,k3,k4,k5,fun i hi hj => ?_⟩⟩
    have hl:=hr.lt.blks c _ hc _ (List.getElem_mem hi)
    exact ⟨(k6 i hi hj).1.keep (keeps _) hl.1,(k6 i hi hj).2.keep (keeps _) hl.2⟩
 ·have old:∀ c Ls' L',(E.move b h.blks.length L).ρ c=some Ls'→L'∈Ls'→∃ d Ds,E.ρ d=some Ds∧L'∈Ds∧(c=h.blks.length∧d=b∨c=d∧c≠b):=fun c Ls' L' k1 k2=>by
   by_cases hc:c=h.blks.length
   ·subst hc;rw [hB] at k1;injection k1 with k1;subst k1
    obtain rfl:L'=L:=by simpa using k2
    exact ⟨b,Ls,hLs,hL,.inl ⟨rfl,rfl⟩⟩
   ·by_cases hcb:c=b
    ·subst hcb;rw [hb0] at k1;cases k1
    ·rw [ho c hc hcb] at k1;exact ⟨c,Ls',k1,k2,.inr ⟨rfl,hcb⟩⟩
  obtain ⟨d,Ds,k1,k2,k3⟩:=old c L1s L1 g1 m1
  obtain ⟨d',Ds',k1',k2',k3'⟩:=old c' L2s L2 g2 m2
  have hne':d≠d':=by
   rcases k3 with ⟨e1,e2⟩ | ⟨e1,e2⟩ <;> rcases k3' with ⟨e1',e2'⟩ | ⟨e1',e2'⟩ <;> omega
  exact hr.apart d d' Ds Ds' L1 L2 hne' k1 k1' k2 k2' hF
 ·obtain ⟨o,k1,⟨ct,df,fi,k2,k3⟩⟩:=hr.loops l r hl
  exact ⟨o,k1,⟨ct,df,fi,k2,k3.keep (keeps h.loops.length) (hr.lt.loops l r hl)⟩⟩
 ·have hk:(h.kill b).Lt:=by
   refine ⟨fun c x hc => ?_,fun l r hl => ?_⟩
   ·rw [zG] at hc
    split at hc
    ·cases hc
    ·rw [hklen];exact hr.lt.blks c x hc
   ·rw [hklen];exact hr.lt.loops l r hl
  refine hk.push fun r hr' x hx => ?_
  rw [hklen]
  exact (hr.lt.blks b _ hb r hr' x hx).mono (by omega) (Nat.le_refl _)
def Loc.window (L:Loc) (i len:Nat):Loc:={ L with off:=L.off + i * L.sz,len:=len }
theorem ub3 {E:Env} {w:World} {h:Heap} (hr:HR E w h) {b:Nat} {rs:List (List AV)} {g:Bool} {Ls:List Loc} {L:Loc}
  (hb:h.blk? b=some (.rows rs g false)) (hLs:E.ρ b=some Ls) (hL:L∈Ls) {i len:Nat} (hp:0 < len) (hil:i + len≤L.len) (n m:Nat) (hn:n≤h.blks.length) :
  HR (E.move b h.blks.length (L.window i len)) w ((h.kill b).push (.rows ((rs.drop i).take len) false false))∧Ext n m E w (E.move b h.blks.length (L.window i len)) w:=by
 have hblt:b < h.blks.length:=qA hb
 have hklen:(h.kill b).blks.length=h.blks.length:=by simp [Heap.kill]
 have hB:(E.move b h.blks.length (L.window i len)).ρ h.blks.length=some [L.window i len]:=by simp [Env.move]
 have hb0:(E.move b h.blks.length (L.window i len)).ρ b=none:=by simp [Env.move];omega
 have ho:∀ c,c≠h.blks.length→c≠b→(E.move b h.blks.length (L.window i len)).ρ c=E.ρ c:=fun c h1 h2=>by simp [Env.move,h1,h2]
 have keeps:∀ m,Keeps h.blks.length m E w (E.move b h.blks.length (L.window i len)) w:=fun m=>by
  refine ⟨fun B o v a b=>⟨a,b⟩,fun c hc Ls' hLs' => ?_,fun _ _ _ h=>h⟩
  by_cases hcb:c=b
  ·rw [hcb,hb0] at hLs';cases hLs'
  ·rw [ho c (by omega) hcb] at hLs'
   exact ⟨Ls',hLs',fun L hL=>⟨L,hL,rfl,rfl,rfl,rfl,Nat.le_refl _⟩⟩
 have hfoot:∀ B,zf (E.move b h.blks.length (L.window i len)) B→zf E B:=by
  rintro B (⟨c,Ls',L',h1,h2,rfl⟩ | ⟨l,h1⟩)
  ·by_cases hc:c=h.blks.length
   ·subst hc;rw [hB] at h1;injection h1 with h1;subst h1
    obtain rfl:L'=L.window i len:=by simpa using h2
    exact .inl ⟨b,Ls,L,hLs,hL,rfl⟩
   ·by_cases hcb:c=b
    ·subst hcb;rw [hb0] at h1;cases h1
    ·rw [ho c hc hcb] at h1;exact .inl ⟨c,Ls',L',h1,h2,rfl⟩
  ·exact .inr ⟨l,h1⟩
 refine uy (B:=Ext ..) ⟨(Keeps.refl n m E w).trans hn (Nat.le_refl _) (keeps m),Nat.le_refl _,rfl,rfl,rfl,fun _ _ _=>rfl,fun _ _ h=>.inl h,fun B _ h=>hfoot B h⟩ fun hx => ?_
 obtain ⟨Ls0,h1,h2⟩:=hr.rows b rs g false hb
 rw [hLs] at h1;injection h1 with h1;subst h1
 have blk:∀ c,((h.kill b).push (.rows ((rs.drop i).take len) false false)).blk? c=if c=h.blks.length then some (.rows ((rs.drop i).take len) false false) else if c=b then none else h.blk? c:=fun c=>by
  rw [gF,hklen,zG]
 have loc:∀ {L':Loc} {rs':List (List AV)} {fz:Bool} {c:Nat} {g':Bool},h.blk? c=some (.rows rs' g' fz)→j8 E w L' rs' fz→j8 (E.move b h.blks.length (L.window i len)) w L' rs' fz:=fun hc hl=>by
  obtain ⟨arr,el,a1,a2,a3⟩:=hl.lies
  refine ⟨⟨arr,el,a1,a2,fun i hi hi' j hj => ?_⟩,hl.len,hl.fits,hl.sz,hl.own,hl.free⟩
  obtain ⟨v,b1,b2,b3⟩:=a3 i hi hi' j hj
  exact ⟨v,b1,b2.keep (keeps h.loops.length) (hr.lt.blks _ _ hc _ (List.getElem_mem hi) _ (List.getElem_mem hj)),b3⟩
 refine ⟨fun c hc => ?_,fun c rs' g' fz hc => ?_,fun c es hc => ?_,fun c c' L1s L2s L1 L2 hne g1 g2 m1 m2 hF => ?_,hr.deadl,fun l r hl => ?_,hr.lapart,?_,hr.inside,hr.globs.ext hx⟩
 ·rw [blk] at hc
  split at hc
  ·cases hc
  ·rename_i hcB
   split at hc
   ·rename_i hcb;rw [hcb];exact hb0
   ·rename_i hcb;rw [ho c hcB hcb];exact hr.dead c hc
 ·rw [blk] at hc
  split at hc
  ·rename_i hcB
   injection hc with hc;injection hc with e1 e2 e3
   subst hcB;subst e1;subst e2;subst e3
   have hl:=h2.all L hL
   have hwl:((rs.drop i).take len).length=len:=by have:=hl.len;simp;omega
   obtain ⟨arr,el,a1,a2,a3⟩:=hl.lies
   refine ⟨[L.window i len],hB,fun _=>⟨_,rfl⟩,⟨L.window i len,by simp,by rw [hwl];rfl⟩,fun L' hL' => ?_,by simp⟩
   obtain rfl:L'=L.window i len:=by simpa using hL'
   refine ⟨⟨arr,el,a1,a2,fun k hk hk' j hj => ?_⟩,by rw [hwl];exact Nat.le_refl _,?_,fun k hk => ?_,hl.own,hl.free⟩
   ·have hk2:k < len:=hk'
    have hkr:i + k < rs.length:=by have:=hl.len;omega
    have ek:((rs.drop i).take len)[k]=rs[i + k]:=by simp
    have hj':j < rs[i + k].length:=by rw [← ek];exact hj
    obtain ⟨v,b1,b2,b3⟩:=a3 (i + k) hkr (by omega) j hj'
    refine ⟨v,?_,?_,b3⟩
    ·show arr[L.off + i * L.sz + k * L.sz + j]? = some v
     rw [← b1]
     congr 1
     rw [Nat.add_mul];omega
    ·have e2:((rs.drop i).take len)[k][j]=rs[i + k][j]:=by simp only [ek]
     rw [e2]
     exact b2.keep (keeps h.loops.length) (hr.lt.blks _ _ hb _ (List.getElem_mem hkr) _ (List.getElem_mem hj'))
   ·have:=hl.fits
    have hm:(i + len) * L.sz≤L.len * L.sz:=Nat.mul_le_mul_right _ hil
    show L.off + i * L.sz + len * L.sz≤L.n
    rw [Nat.add_mul] at hm;omega
   ·have hk2:k < len:=by rw [hwl] at hk;exact hk
    have hkr:i + k < rs.length:=by have:=hl.len;omega
    have ek:((rs.drop i).take len)[k]=rs[i + k]:=by simp
    rw [ek];exact hl.sz (i + k) hkr
  ·rename_i hcB
   split at hc
   ·cases hc
   ·rename_i hcb
    obtain ⟨Ls',k1,k2⟩:=hr.rows c rs' g' fz hc
    exact ⟨Ls',by rw [ho c hcB hcb];exact k1,k2.one,k2.now,fun L' hL'=>loc hc (k2.all L' hL'),k2.apart⟩
 ·rw [blk] at hc
  split at hc
  ·injection hc with hc;cases hc
  ·rename_i hcB
   split at hc
   ·cases hc
   ·rename_i hcb
    obtain ⟨Ls',k1,⟨L',ces,clock,rfl,k3,k4,k5,k6⟩⟩:=hr.maps c es hc
    refine ⟨[L'],by rw [ho c hcB hcb];exact k1,⟨L',ces,clock,rfl,k3,k4,k5,fun i hi hj => ?_⟩⟩
    have hl:=hr.lt.blks c _ hc _ (List.getElem_mem hi)
    exact ⟨(k6 i hi hj).1.keep (keeps _) hl.1,(k6 i hi hj).2.keep (keeps _) hl.2⟩
 ·have old:∀ c Ls' L',(E.move b h.blks.length (L.window i len)).ρ c=some Ls'→L'∈Ls'→∃ d Ds L0,E.ρ d=some Ds∧L0∈Ds∧L0.blk=L'.blk∧(c=h.blks.length∧d=b∨c=d∧c≠b):=fun c Ls' L' k1 k2=>by
   by_cases hc:c=h.blks.length
   ·subst hc;rw [hB] at k1;injection k1 with k1;subst k1
    obtain rfl:L'=L.window i len:=by simpa using k2
    exact ⟨b,Ls,L,hLs,hL,rfl,.inl ⟨rfl,rfl⟩⟩
   ·by_cases hcb:c=b
    ·subst hcb;rw [hb0] at k1;cases k1
    ·rw [ho c hc hcb] at k1;exact ⟨c,Ls',L',k1,k2,rfl,.inr ⟨rfl,hcb⟩⟩
  obtain ⟨d,Ds,L3,k1,k2,k4,k3⟩:=old c L1s L1 g1 m1
  obtain ⟨d',Ds',L4,k1',k2',k4',k3'⟩:=old c' L2s L2 g2 m2
  have hne':d≠d':=by
   rcases k3 with ⟨e1,e2⟩ | ⟨e1,e2⟩ <;> rcases k3' with ⟨e1',e2'⟩ | ⟨e1',e2'⟩ <;> omega
  rw [← k4,← k4']
  exact hr.apart d d' Ds Ds' L3 L4 hne' k1 k1' k2 k2' (k4 ▸ hF)
 ·obtain ⟨o,k1,⟨ct,df,fi,k2,k3⟩⟩:=hr.loops l r hl
  exact ⟨o,k1,⟨ct,df,fi,k2,k3.keep (keeps h.loops.length) (hr.lt.loops l r hl)⟩⟩
 ·have hk:(h.kill b).Lt:=by
   refine ⟨fun c x hc => ?_,fun l r hl => ?_⟩
   ·rw [zG] at hc
    split at hc
    ·cases hc
    ·rw [hklen];exact hr.lt.blks c x hc
   ·rw [hklen];exact hr.lt.loops l r hl
  refine hk.push fun r hr' x hx => ?_
  rw [hklen]
  exact (hr.lt.blks b _ hb r (List.mem_of_mem_drop (List.mem_of_mem_take hr')) x hx).mono (by omega) (Nat.le_refl _)
theorem jb3 {E:Env} {w w':World} {h:Heap} (hr:HR E w h) {b:Nat} {rs new:List (List AV)} {g:Bool} {Ls:List Loc} {L L':Loc}
  (hb:h.blk? b=some (.rows rs g false)) (hLs:E.ρ b=some Ls) (hL:L∈Ls) (ho:w'.os=w.os) (hout:w'.output=w.output) (ht:w'.tape=w.tape) (hsize:w'.heap.size=w.heap.size)
  (hold:∀ B,B≠L.blk→w'.heap[B]? = w.heap[B]?) {arr:Array Value} {el:TypeId} (hat:w'.heap[L.blk]? = some (.cells arr el (0,0))) (hn:L'.n=arr.size)
  (hblk:L'.blk=L.blk) (hlen:L'.len=new.length) (hfit:L'.off + L'.len * L'.sz≤L'.n) (hsz:∀ (i:Nat) (hi:i < new.length),new[i].length=L'.sz)
  (hval:∀ (i:Nat) (hi:i < new.length) (j:Nat) (hj:j < new[i].length),∃ v,arr[L'.off + i * L'.sz + j]? = some v∧VR E w new[i][j] v∧one v=true)
  (hlt:∀ r∈new,∀ x∈r,Lt h.blks.length h.loops.length x) :
  HR (E.move b h.blks.length L') w' ((h.kill b).push (.rows new true false))∧Ext h.blks.length h.loops.length E w (E.move b h.blks.length L') w':=by
 have hblt:b < h.blks.length:=qA hb
 have hklen:(h.kill b).blks.length=h.blks.length:=by simp [Heap.kill]
 have hB:(E.move b h.blks.length L').ρ h.blks.length=some [L']:=by simp [Env.move]
 have hb0:(E.move b h.blks.length L').ρ b=none:=by simp [Env.move];omega
 have hoc:∀ c,c≠h.blks.length→c≠b→(E.move b h.blks.length L').ρ c=E.ρ c:=fun c h1 h2=>by simp [Env.move,h1,h2]
 obtain ⟨Ls0,h1,h2⟩:=hr.rows b rs g false hb
 rw [hLs] at h1;injection h1 with h1;subst h1
 have hown:E.F L.blk:=(h2.all L hL).own rfl
 have hLlt:L.blk < w.heap.size:=hr.inside _ hown
 have keeps:∀ m,Keeps h.blks.length m E w (E.move b h.blks.length L') w':=fun m=>by
  refine ⟨fun B o v hF hc=>⟨hF,?_⟩,fun c hc Ls' hLs' => ?_,fun _ _ _ h=>h⟩
  ·have:=hold B (fun e=>hF (e ▸ hown))
   simp only [World.cell?,this] at hc ⊢;exact hc
  ·by_cases hcb:c=b
   ·rw [hcb,hb0] at hLs';cases hLs'
   ·rw [hoc c (by omega) hcb] at hLs'
    exact ⟨Ls',hLs',fun L hL=>⟨L,hL,rfl,rfl,rfl,rfl,Nat.le_refl _⟩⟩
 have hfoot:∀ B,zf (E.move b h.blks.length L') B→zf E B:=by
  rintro B (⟨c,Ls',L2,h1,h2,rfl⟩ | ⟨l,h1⟩)
  ·by_cases hc:c=h.blks.length
   ·subst hc;rw [hB] at h1;injection h1 with h1;subst h1
    obtain rfl:L2=L':=by simpa using h2
    exact .inl ⟨b,Ls,L,hLs,hL,hblk.symm⟩
   ·by_cases hcb:c=b
    ·subst hcb;rw [hb0] at h1;cases h1
    ·rw [hoc c hc hcb] at h1;exact .inl ⟨c,Ls',L2,h1,h2,rfl⟩
  ·exact .inr ⟨l,h1⟩
 have hLfoot:zf E L.blk:=.inl ⟨b,Ls,L,hLs,hL,rfl⟩
 refine uy (B:=Ext ..) ⟨keeps _,by omega,ho,hout,ht,fun B _ hf=>hold B (fun e=>hf (e ▸ hLfoot)),fun _ _ h=>.inl h,fun B _ h=>hfoot B h⟩ fun hx => ?_
 have blk:∀ c,((h.kill b).push (.rows new true false)).blk? c=if c=h.blks.length then some (.rows new true false) else if c=b then none else h.blk? c:=fun c=>by
  rw [gF,hklen,zG]
 have away:∀ c Ls2 L2,c≠b→E.ρ c=some Ls2→L2∈Ls2→L2.blk≠L.blk:=fun c Ls2 L2 hc k1 k2 e=>hr.apart b c Ls Ls2 L L2 (Ne.symm hc) hLs k1 hL k2 hown e.symm
 refine ⟨fun c hc => ?_,fun c rs' g' fz hc => ?_,fun c es hc => ?_,fun c c' L1s L2s L1 L2 hne g1 g2 m1 m2 hF => ?_,hr.deadl,fun l r hl => ?_,hr.lapart,?_,fun B hB=>by rw [hsize];exact hr.inside B hB,hr.globs.ext hx⟩
 ·rw [blk] at hc
  split at hc
  ·cases hc
  ·rename_i hcB
   split at hc
   ·rename_i hcb;rw [hcb];exact hb0
   ·rename_i hcb;rw [hoc c hcB hcb];exact hr.dead c hc
 ·rw [blk] at hc
  split at hc
  ·rename_i hcB
   injection hc with hc;injection hc with e1 e2 e3
   subst hcB;subst e1;subst e2;subst e3
   refine ⟨[L'],hB,(fun _=>⟨_,rfl⟩),⟨L',by simp,hlen⟩,fun L2 hL2 => ?_,by simp⟩
   obtain rfl:L2=L':=by simpa using hL2
   refine ⟨⟨arr,el,by rw [hblk];exact hat,hn,fun k hk hk' j hj => ?_⟩,by omega,hfit,hsz,fun _=>by rw [hblk];exact hown,fun h=>by cases h⟩
   obtain ⟨v,b1,b2,b3⟩:=hval k hk j hj
   exact ⟨v,b1,b2.keep (keeps _) (hlt _ (List.getElem_mem hk) _ (List.getElem_mem hj)),b3⟩
  ·rename_i hcB
   split at hc
   ·cases hc
   ·rename_i hcb
    obtain ⟨Ls',k1,k2⟩:=hr.rows c rs' g' fz hc
    refine ⟨Ls',by rw [hoc c hcB hcb];exact k1,k2.one,k2.now,fun L2 hL2 => ?_,k2.apart⟩
    have hl:=k2.all L2 hL2
    obtain ⟨arr2,el2,a1,a2,a3⟩:=hl.lies
    refine ⟨⟨arr2,el2,(hold _ (away c Ls' L2 hcb k1 hL2)).trans a1,a2,fun i hi hi' j hj => ?_⟩,hl.len,hl.fits,hl.sz,hl.own,hl.free⟩
    obtain ⟨v,b1,b2,b3⟩:=a3 i hi hi' j hj
    exact ⟨v,b1,b2.keep (keeps h.loops.length) (hr.lt.blks _ _ hc _ (List.getElem_mem hi) _ (List.getElem_mem hj)),b3⟩
 ·rw [blk] at hc
  split at hc
  ·injection hc with hc;cases hc
  ·rename_i hcB
   split at hc
   ·cases hc
   ·rename_i hcb
    obtain ⟨Ls',k1,⟨L2,ces,clock,rfl,k3,k4,k5,k6⟩⟩:=hr.maps c es hc
    refine ⟨[L2],by rw [hoc c hcB hcb];exact k1,⟨L2,ces,clock,rfl,k3,(hold _ (away c [L2] L2 hcb k1 (by simp))).trans k4,k5,fun i hi hj => ?_⟩⟩
    have hl:=hr.lt.blks c _ hc _ (List.getElem_mem hi)
    exact ⟨(k6 i hi hj).1.keep (keeps _) hl.1,(k6 i hi hj).2.keep (keeps _) hl.2⟩
 ·have old:∀ c Ls2 L2,(E.move b h.blks.length L').ρ c=some Ls2→L2∈Ls2→∃ d Ds L0,E.ρ d=some Ds∧L0∈Ds∧L0.blk=L2.blk∧(c=h.blks.length∧d=b∨c=d∧c≠b):=fun c Ls2 L2 k1 k2=>by
   by_cases hc:c=h.blks.length
   ·subst hc;rw [hB] at k1;injection k1 with k1;subst k1
    obtain rfl:L2=L':=by simpa using k2
    exact ⟨b,Ls,L,hLs,hL,hblk.symm,.inl ⟨rfl,rfl⟩⟩
   ·by_cases hcb:c=b
    ·subst hcb;rw [hb0] at k1;cases k1
    ·rw [hoc c hc hcb] at k1;exact ⟨c,Ls2,L2,k1,k2,rfl,.inr ⟨rfl,hcb⟩⟩
  obtain ⟨d,Ds,L3,k1,k2,k4,k3⟩:=old c L1s L1 g1 m1
  obtain ⟨d',Ds',L4,k1',k2',k4',k3'⟩:=old c' L2s L2 g2 m2
  have hne':d≠d':=by
   rcases k3 with ⟨e1,e2⟩ | ⟨e1,e2⟩ <;> rcases k3' with ⟨e1',e2'⟩ | ⟨e1',e2'⟩ <;> omega
  rw [← k4,← k4']
  exact hr.apart d d' Ds Ds' L3 L4 hne' k1 k1' k2 k2' (k4 ▸ hF)
 ·obtain ⟨o,k1,⟨ct,df,fi,k2,k3⟩⟩:=hr.loops l r hl
  have hne:o≠L.blk:=fun e=>by
   obtain ⟨arr2,el2,a1,_⟩:=(h2.all L hL).lies
   rw [← e,k2] at a1;cases a1
  exact ⟨o,k1,⟨ct,df,fi,(hold o hne).trans k2,k3.keep (keeps h.loops.length) (hr.lt.loops l r hl)⟩⟩
 ·have hk:(h.kill b).Lt:=by
   refine ⟨fun c x hc => ?_,fun l r hl => ?_⟩
   ·rw [zG] at hc
    split at hc
    ·cases hc
    ·rw [hklen];exact hr.lt.blks c x hc
   ·rw [hklen];exact hr.lt.loops l r hl
  refine hk.push fun r hr' x hx => ?_
  rw [hklen]
  exact (hlt r hr' x hx).mono (by omega) (Nat.le_refl _)
theorem wb4 {E:Env} {w:World} {h:Heap} (hr:HR E w h) (b n m:Nat) :
  HR { E with ρ:=fun c=>if c=b then none else E.ρ c } w (h.kill b)∧Ext n m E w { E with ρ:=fun c=>if c=b then none else E.ρ c } w:=by
 have hklen:(h.kill b).blks.length=h.blks.length:=by simp [Heap.kill]
 have sub:∀ c Ls,(if c=b then none else E.ρ c)=some Ls→c≠b∧E.ρ c=some Ls:=fun c Ls k=>by
  by_cases hcb:c=b
  ·rw [if_pos hcb] at k;cases k
  ·rw [if_neg hcb] at k;exact ⟨hcb,k⟩
 have keeps:∀ n m,Keeps n m E w { E with ρ:=fun c=>if c=b then none else E.ρ c } w:=fun n m =>
  ⟨fun B o v a b=>⟨a,b⟩,fun c hc Ls' hLs'=>⟨Ls',(sub c Ls' hLs').2,fun L hL=>⟨L,hL,rfl,rfl,rfl,rfl,Nat.le_refl _⟩⟩,fun _ _ _ h=>h⟩
 have hfoot:∀ B,zf { E with ρ:=fun c=>if c=b then none else E.ρ c } B→zf E B:=by
  rintro B (⟨c,Ls',L2,h1,h2,rfl⟩ | ⟨l,h1⟩)
  ·exact .inl ⟨c,Ls',L2,(sub c Ls' h1).2,h2,rfl⟩
  ·exact .inr ⟨l,h1⟩
 refine uy (B:=Ext ..) ⟨keeps _ _,Nat.le_refl _,rfl,rfl,rfl,fun B _ hf=>rfl,fun _ _ h=>.inl h,fun B _ h=>hfoot B h⟩ fun hx => ?_
 refine ⟨fun c hc => ?_,fun c rs' g' fz hc => ?_,fun c es hc => ?_,fun c c' L1s L2s L1 L2 hne g1 g2 m1 m2 hF=>hr.apart c c' L1s L2s L1 L2 hne (sub _ _ g1).2 (sub _ _ g2).2 m1 m2 hF,hr.deadl,fun l r hl => ?_,hr.lapart,⟨fun c x hc => ?_,fun l r hl => ?_⟩,hr.inside,hr.globs.ext hx⟩
 ·rw [zG] at hc
  show (if c=b then none else E.ρ c)=none
  split at hc
  ·rename_i e;rw [if_pos e]
  ·rename_i e;rw [if_neg e];exact hr.dead c hc
 ·rw [zG] at hc
  split at hc
  ·cases hc
  ·rename_i hcb
   obtain ⟨Ls',k1,k2⟩:=hr.rows c rs' g' fz hc
   refine ⟨Ls',by show (if c=b then none else E.ρ c)=_;rw [if_neg hcb];exact k1,k2.one,k2.now,fun L2 hL2 => ?_,k2.apart⟩
   have hl:=k2.all L2 hL2
   obtain ⟨arr2,el2,a1,a2,a3⟩:=hl.lies
   refine ⟨⟨arr2,el2,a1,a2,fun i hi hi' j hj => ?_⟩,hl.len,hl.fits,hl.sz,hl.own,hl.free⟩
   obtain ⟨v,b1,b2,b3⟩:=a3 i hi hi' j hj
   exact ⟨v,b1,b2.keep (keeps h.blks.length h.loops.length) (hr.lt.blks _ _ hc _ (List.getElem_mem hi) _ (List.getElem_mem hj)),b3⟩
 ·rw [zG] at hc
  split at hc
  ·cases hc
  ·rename_i hcb
   obtain ⟨Ls',k1,⟨L2,ces,clock,rfl,k3,k4,k5,k6⟩⟩:=hr.maps c es hc
   refine ⟨[L2],by show (if c=b then none else E.ρ c)=_;rw [if_neg hcb];exact k1,⟨L2,ces,clock,rfl,k3,k4,k5,fun i hi hj => ?_⟩⟩
   have hl:=hr.lt.blks c _ hc _ (List.getElem_mem hi)
   exact ⟨(k6 i hi hj).1.keep (keeps _ _) hl.1,(k6 i hi hj).2.keep (keeps _ _) hl.2⟩
 ·obtain ⟨o,k1,⟨ct,df,fi,k2,k3⟩⟩:=hr.loops l r hl
  exact ⟨o,k1,⟨ct,df,fi,k2,k3.keep (keeps h.blks.length h.loops.length) (hr.lt.loops l r hl)⟩⟩
 ·rw [zG] at hc
  split at hc
  ·cases hc
  ·rw [hklen];exact hr.lt.blks c x hc
 ·rw [hklen];exact hr.lt.loops l r hl
section ops
variable {P:Program} {h:Heap} {E:Env} {w:World} {K:AV→Heap→Prop}
theorem VOK.move {s:Sem Value} (hv:VOK P h E w s (fun r h'=>K r h'∨vC h' r K)):VOK P h E w s K:=by
 obtain ⟨r,h',E',w',v,hrun,hk,v1,v2,v3,v4,v5,v6⟩:=hv
 rcases hk with hk | hk
 ·exact ⟨r,h',E',w',v,hrun,hk,v1,v2,v3,v4,v5,v6⟩
 ·unfold vC at hk
  split at hk
  ·rename_i b n
   split at hk
   ·rename_i rs g hb
    obtain ⟨hn,hk⟩:=hk
    subst hn
    obtain ⟨Ls,h1,h2⟩:=v2.rows b rs g false hb
    cases v1 with
    | ms _ _ _ _ a l c hv =>
     obtain ⟨L,hL,g1,g2,g3,g4,g5,rfl⟩:=hv Ls h1
     have hlen:L.len=rs.length:=by have:=(h2.all L hL).len;omega
     obtain ⟨k1,k2⟩:=xb4 v2 hb h1 hL hlen h.blks.length h.loops.length v4
     have hkl:(h'.kill b).blks.length=h'.blks.length:=by simp [Heap.kill]
     refine ⟨_,_,E'.move b h'.blks.length L,w',_,hrun,hk,?_,k1,?_,?_,?_,v6.trans (Nat.le_refl _) (Nat.le_refl _) k2⟩
     ·refine .ms _ _ _ _ _ _ _ fun Ls' hLs' => ?_
      have hB:(E'.move b h'.blks.length L).ρ h'.blks.length=some [L]:=by simp [Env.move]
      rw [hB] at hLs';injection hLs' with hLs';subst hLs'
      exact ⟨L,by simp,g1,g2,g3,g4,g5,rfl⟩
     ·refine .ms _ _ _ _ ?_
      simp [Heap.push,hkl]
     ·simp [Heap.push,hkl];omega
     ·exact v5
   ·exact hk.elim
  ·exact hk.elim
def x9 (h:Heap) (s:AV):Option (AV × Heap) :=
 match s with
 | .ms b i len none=>(match h.blk? b with
  | some (.rows rs _ false)=>(match Nat.blt 0 len && Nat.ble (i + len) rs.length with
   | true=>some (.ms h.blks.length 0 len none,(h.kill b).push (.rows ((rs.drop i).take len) false false))
   | false=>none)
  | _=>none)
 | _=>none
def vau (T:Tab) (h:Heap) (t:TypeId) (s x:AV) (K:AV→Heap→Prop):Prop :=
 match s with
 | .ms b _ 0 none=>(match h.blk? b,T t with
  | some (.rows rs _ false),some { desc:=.slice e,.. }=>(match T e,jo h x with
   | some ei,some new=>(0 < ei.size∧0 < ei.bytes)∧(∀ row∈new,row.length=ei.size∧row.all okc=true)∧0 < new.length∧(∃ r rest,rs=r :: rest∧r.length=ei.size) ∧
     new.length * ei.bytes≤140737488355328∧K (.ms h.blks.length 0 new.length none) ((h.kill b).push (.rows new true false))
   | _,_=>False)
  | _,_=>False)
 | _=>False
def zai (T:Tab) (h:Heap) (t:TypeId) (s x:AV) (K:AV→Heap→Prop):Prop :=
 zr T h t s x K∨(∃ s' h',x9 h s=some (s',h')∧zr T h' t s' x K)∨vau T h t s x K
theorem ubM (hr:HR E w h) {x:AV} {new:List (List AV)} (hlx:Lt h.blks.length h.loops.length x) (hnew:jo h x=some new):∀ r∈new,∀ y∈r,Lt h.blks.length h.loops.length y:=by
 unfold jo at hnew
 split at hnew
 ·injection hnew with hnew;subst hnew
  cases hlx with
  | vs _ _ hl =>
   intro r hr' y hy
   obtain ⟨i,hi,rfl⟩:=List.getElem_of_mem hr'
   obtain ⟨j,hj,rfl⟩:=List.getElem_of_mem hy
   exact hl i hi j hj
 ·injection hnew with hnew;subst hnew;intro r hr' y hy;simp at hr'
 ·injection hnew with hnew;subst hnew
  intro r hr' y hy
  obtain ⟨c,_,rfl⟩:=List.mem_map.1 hr'
  obtain rfl:y=_:=by simpa using hy
  exact .int _ _
 ·split at hnew
  ·rename_i rs g fz hbl
   split at hnew
   ·injection hnew with hnew;subst hnew
    exact fun r hr' y hy=>hr.lt.blks _ _ hbl r (List.mem_of_mem_drop (List.mem_of_mem_take hr')) y hy
   ·cases hnew
  ·cases hnew
 ·cases hnew
theorem ybV {T:Tab} (hT:wc P T) (hr:HR E w h) {t u ty:TypeId} {ui:TI} (hu:T u=some ui) (hnu:gE ui.desc=true) {s x:AV} {vs vx:Value} (hs:VR E w s vs) (hx:VR E w x vx)
  (hlx:Lt h.blks.length h.loops.length x) (hb:vau T h t s x K) (hstr:∀ ti e ei,T t=some ti→ti.desc=.slice e→T e=some ei→(∃ a,x=.str a)→ei.size=1) :
  VOK P h E w (Builtin.append_ #[t,u] ty #[vs,vx]) K:=by
 unfold vau at hb
 split at hb
 rotate_left
 ·exact hb.elim
 rename_i b i
 split at hb
 rotate_left
 ·exact hb.elim
 rename_i rs g e tsize tbytes tzero tcmp hbl ht
 split at hb
 rotate_left
 ·exact hb.elim
 rename_i ei new hei hnew
 obtain ⟨⟨hpos,hbpos⟩,hrows,hn0,⟨r0,rest,rfl,hr0⟩,hbd,hk⟩:=hb
 obtain ⟨ncs,fn,hlen,hfc⟩:=yam (P:=P) hr hx hnew hrows hpos (hstr _ e ei ht rfl hei)
 have hnlt:=ubM hr hlx hnew
 obtain ⟨Ls,L,c,g1,hL,g2,g3,g4,g5,g6,k0,hk0,rfl⟩:=wH hr hs hbl
 have hla:=g2.all L hL
 have hLs:L.sz=ei.size:=by rw [← hla.sz 0 (by simp)];exact hr0
 have hkl:(h.kill b).blks.length=h.blks.length:=by simp [Heap.kill]
 by_cases hroom:new.length≤c
 ·have hik:i=k0:=by omega
  subst hik
  obtain ⟨arr,el,a1,a2,a3⟩:=hla.lies
  have hB:L.blk < w.heap.size:=xi hr (.inl ⟨b,Ls,L,g1,hL,rfl⟩)
  have hnl:=fn.len
  have hin:(i + new.length) * L.sz≤(i + c) * L.sz:=Nat.mul_le_mul_right _ (by omega)
  rw [Nat.add_mul i new.length] at hin
  rw [← hLs] at fn hnl
  obtain ⟨w',r1,r2,r3,r4,r5⟩:=qal (P:=P) (B:=L.blk) (off:=L.off + i * L.sz) (el:=el) ncs 0 arr w a1 fn.one_mem (by omega)
  rw [Nat.add_zero] at r2
  have hat:w'.heap[L.blk]? = some (.cells (qp arr (L.off + i * L.sz) ncs) el (0,0)):=by rw [r2,Array.getElem?_setIfInBounds_self_of_lt hB]
  let L':Loc:=⟨L.blk,L.off + i * L.sz,L.sz,L.n,new.length⟩
  obtain ⟨q1,q2⟩:=jb3 hr (L':=L') hbl g1 hL r3 r4 r5 (by rw [r2];simp) (fun B hB=>by rw [r2,Array.getElem?_setIfInBounds_ne (Ne.symm hB)]) hat (by rw [vV];exact a2) rfl rfl
   (by show L.off + i * L.sz + new.length * L.sz≤L.n;omega) fn.sz
   (fun k hk j hj=>by
    obtain ⟨v,v1,v2,v3⟩:=fn.val k hk j hj
    refine ⟨v,?_,v2,v3⟩
    have hlt:k * L.sz + j < ncs.length:=by rw [fn.len];exact uH hk (by rw [← fn.sz k hk];exact hj)
    show (qp arr (L.off + i * L.sz) ncs)[L.off + i * L.sz + k * L.sz + j]? = some v
    rw [qaa _ _ _ _ (by omega),if_pos (by omega),show L.off + i * L.sz + k * L.sz + j - (L.off + i * L.sz)=k * L.sz + j from by omega]
    exact v1) hnlt
  have hr2:=zam (ty:=ty) (base:=some ⟨L.blk,L.off + i * L.sz,none⟩) (sLen:=0) (sCap:=c) hT ht rfl hu hnu hei hfc hlen (by omega)
  have hBn:(E.move b h.blks.length L').ρ h.blks.length=some [L']:=by simp [Env.move]
  refine ⟨_,_,_,w',.slice (some ⟨L.blk,L.off + i * L.sz,none⟩) (0 + new.length) c,?_,hk,.ms _ _ _ _ _ _ _ fun Ls2 h2 => ?_,q1,.ms _ _ _ _ (by simp [Heap.push,hkl]),by simp [Heap.push,hkl],Nat.le_refl _,q2⟩
  ·rw [hr2]
   simp only [Addr.add_none,Nat.zero_mul,Nat.add_zero,r1]
   rfl
  ·rw [hBn] at h2;injection h2 with h2;subst h2
   refine ⟨L',by simp,by simp [L'],by omega,?_,(fun k hk=>by cases hk),⟨0,.inr rfl,by simp [L']⟩,by omega⟩
   show L.off + i * L.sz + (0 + c) * L.sz≤L.n
   rw [Nat.add_mul] at g5;rw [Nat.zero_add];omega
 ·obtain ⟨cap,w',zs,hcap,hrun,hw,hzs,ho,hout,htp⟩:=xaD (ty:=ty) (base:=some ⟨L.blk,L.off + k0 * L.sz,none⟩) (sLen:=0) (sCap:=c) (ocs:=[]) hT ht rfl hu hnu hei
   (fun w' _=>jP (by simp) (fun k v hk=>by simp at hk)) hfc hlen (by omega) (by rw [Nat.zero_add];exact hbd) hbpos
  obtain ⟨q1,q2⟩:=wb4 hr b h.blks.length h.loops.length
  rw [Nat.zero_add] at hrun hcap
  have hn':Flat { E with ρ:=fun c=>if c=b then none else E.ρ c } w ei.size new ncs:=⟨fn.len,fn.sz,fun k hk j hj=>by
   obtain ⟨v,v1,v2,v3⟩:=fn.val k hk j hj
   exact ⟨v,v1,v2.keep q2.keeps (hnlt _ (List.getElem_mem hk) _ (List.getElem_mem hj)),v3⟩⟩
  have hv:=uap (P:=P) (K:=K) (e:=e) (more:=zs) (cs:=ncs) (cap:=cap) (s:=Builtin.append_ #[t,u] ty #[.slice (some ⟨L.blk,L.off + k0 * L.sz,none⟩) 0 c,vx]) (g:=true) (capo:=none) q1 hn'
   (fun r hr' y hy=>by rw [hkl];exact hnlt r hr' y hy) (by rw [hw];simp) ho hout htp
   (by rw [hzs,fn.len,← Nat.add_mul];congr 1;omega) (len:=new.length) (Nat.le_refl _) hcap (fun k hk=>by cases hk) hrun (by rw [hkl];exact hk)
  obtain ⟨r,h2,E2,w2,v,u1,u2,u3,u4,u5,u6,u7,u8⟩:=hv
  rw [hkl] at u6 u8
  exact ⟨r,h2,E2,w2,v,u1,u2,u3,u4,u5,u6,u7,q2.trans (Nat.le_refl _) (Nat.le_refl _) u8⟩
theorem xbV {T:Tab} (hT:wc P T) (hr:HR E w h) {t u ty:TypeId} {ui:TI} (hu:T u=some ui) (hnu:gE ui.desc=true) {s x:AV} {vs vx:Value} (hs:VR E w s vs) (hx:VR E w x vx)
  (hls:Lt h.blks.length h.loops.length s) (hlx:Lt h.blks.length h.loops.length x) (hb:zai T h t s x K) (hstr:∀ ti e ei,T t=some ti→ti.desc=.slice e→T e=some ei→(∃ a,x=.str a)→ei.size=1) :
  VOK P h E w (Builtin.append_ #[t,u] ty #[vs,vx]) K:=by
 rcases hb with hb | ⟨s',h',hw,hb⟩ | hb
 rotate_left 2
 ·exact ybV hT hr hu hnu hs hx hlx hb hstr
 ·exact wbc hT hr hu hnu hs hx hls hlx hb hstr
 ·unfold x9 at hw
  split at hw
  rotate_left
  ·cases hw
  rename_i b i len
  split at hw
  rotate_left
  ·cases hw
  rename_i rs g hbl
  split at hw
  rotate_left
  ·cases hw
  rename_i hc
  injection hw with hw
  injection hw with hw1 hw2
  subst hw1;subst hw2
  simp only [Bool.and_eq_true,Nat.blt_eq,Nat.ble_eq] at hc
  obtain ⟨Ls,L,c,g1,hL,g2,g3,g4,g5,g6,hvs⟩:=xbe hr hs hbl hc.1
  obtain ⟨k1,k2⟩:=ub3 hr hbl g1 hL hc.1 g3 h.blks.length h.loops.length (Nat.le_refl _)
  have hkl:(h.kill b).blks.length=h.blks.length:=by simp [Heap.kill]
  have hl':((h.kill b).push (.rows ((rs.drop i).take len) false false)).blks.length=h.blks.length + 1:=by simp [Heap.push,hkl]
  have hll:((h.kill b).push (.rows ((rs.drop i).take len) false false)).loops.length=h.loops.length:=rfl
  have hB:(E.move b h.blks.length (L.window i len)).ρ h.blks.length=some [L.window i len]:=by simp [Env.move]
  have hs':VR (E.move b h.blks.length (L.window i len)) w (.ms h.blks.length 0 len none) vs:=by
   rw [hvs]
   refine .ms _ _ _ _ _ _ _ fun Ls' hLs' => ?_
   rw [hB] at hLs';injection hLs' with hLs';subst hLs'
   refine ⟨L.window i len,by simp,by show 0 + len≤len;omega,g4,?_,(fun k hk=>by cases hk),⟨0,.inr rfl,?_⟩,rfl⟩
   ·show L.off + i * L.sz + (0 + c) * L.sz≤L.n
    rw [Nat.add_mul] at g5;rw [Nat.zero_add];omega
   ·show some (⟨L.blk,L.off + i * L.sz,none⟩:Addr)=some ⟨L.blk,L.off + i * L.sz + 0 * L.sz,none⟩
    rw [Nat.zero_mul,Nat.add_zero]
  obtain ⟨r,h2,E2,w',v,r1,r2,v1,v2,v3,v4,v5,v6⟩:=wbc (ty:=ty) hT k1 hu hnu hs' (hx.keep k2.keeps hlx) (.ms _ _ _ _ (by rw [hl'];omega)) (hlx.mono (by rw [hl'];omega) (Nat.le_refl _)) hb hstr
  rw [hl'] at v4 v6
  exact ⟨r,h2,E2,w',v,r1,r2,v1,v2,v3,by omega,v5,k2.trans (by omega) (Nat.le_refl _) v6⟩
end ops
end
end Go.Abs

namespace Go.Abs
noncomputable section
variable [Gl]
structure xbz (P:Program) (f:FuncId) (sz bytes:Nat):Prop where
 ok:uT P f
 run:∀ (h:Heap) (K:AV→Heap→Prop) (b i0 n:Nat) (rs:List (List AV)) (g:Bool) (i b' j:Nat) (c':Option Nat) (rs':List (List AV)) (g':Bool) (row:List AV),
  h.blk? b=some (.rows rs g false)→h.blk? b'=some (.rows rs' g' false)→b≠b'→i < n→i0 + n≤rs.length→(∀ r∈rs,r.length=sz∧r.all okc=true)→rs'[j]? = some row→row.length=sz→row.all okc=true →
  (n + 1) * bytes≤140737488355328 →
  K (.ms h.blks.length 0 (n + 1) none) ((h.kill b).push (.rows (((rs.drop i0).take n).take i ++ row :: ((rs.drop i0).take n).drop i) true false)) →
  CallSem P f [.ms b i0 n none,.int .i64 i,.ms b' j 1 c'] h K
end
end Go.Abs

namespace Go.Abs
noncomputable section
variable [Gl]
def wL (n:Nat):AV→AV
 | .vs es c=>.vs (es.take n) c
 | .ms b i len c=>.ms b i (min n len) c
 | x=>x
def uaa:AV→Option Nat
 | .vs es _=>some es.length
 | .ms _ _ len _=>some len
 | .nils=>some 0
 | _=>none
def z6 (T:Tab) (h:Heap) (t:TypeId) (d x:AV) (K:AV→Heap→Prop):Prop :=
 match T t with
 | none=>False
 | some ti=>match ti.desc with
  | .slice el=>match T el with
   | none=>False
   | some ei=>match d with
    | .ms b i len _=>match h.blk? b with
     | some (.rows rs false false)=>match uaa x with
      | none=>False
      | some l=>match jo h (wL (min l len) x) with
       | none=>False
       | some new=>(new.length=min l len∧0 < ei.size∧i + len≤rs.length∧(∀ r∈rs,r.length=ei.size)∧∀ r∈new,r.length=ei.size∧r.all okc=true) ∧
        (match new with
        | []=>K (.int .i64 0) h
        | _ :: _=>K (.int .i64 (min l len:Nat)) (h.put b (.rows (rs.take i ++ new ++ rs.drop (i + new.length)) false false)))
     | _=>False
    | _=>False
  | _=>False
section sound
variable {P:Program} {T:Tab} {E:Env} {w:World} {h:Heap} {K:AV→Heap→Prop}
theorem vbC (hr:HR E w h) {x:AV} {v:Value} {l n:Nat} (hx:VR E w x v) (hl:uaa x=some l) (hn:n≤l) (hlive:∀ b i len c,x=.ms b i len c→∃ y,h.blk? b=some y) :
  ∃ base cap,v=.slice base l cap∧VR E w (wL n x) (.slice base n cap):=by
 cases hx with
 | nils =>
  injection hl with hl;subst hl
  obtain rfl:n=0:=by omega
  exact ⟨_,_,rfl,.nils⟩
 | vs es capo B off cap sz vals hlen hcap hsz hF hh =>
  injection hl with hl;subst hl
  refine ⟨_,_,rfl,?_⟩
  have e:(es.take n).length=n:=by rw [List.length_take];omega
  have:=VR.vs (E:=E) (w:=w) (es.take n) capo B off cap sz vals (by omega) hcap (fun i hi=>by rw [List.getElem_take];exact hsz i (by omega))
   (fun i hi j hj=>hF i (by omega) j (by rw [List.getElem_take] at hj;exact hj)) (fun i hi j hj=>by
    have hi':i < es.length:=by omega
    have e2:(es.take n)[i]=es[i]:=List.getElem_take
    have hj':j < es[i].length:=by rw [← e2];exact hj
    have e3:(es.take n)[i][j]=es[i][j]:=by simp only [e2]
    rw [e3];exact hh i hi' j hj')
  rw [e] at this
  exact this
 | ms b i len capo a l' c hm =>
  injection hl with hl;subst hl
  obtain ⟨y,hy⟩:=hlive b i len capo rfl
  cases hE:E.ρ b with
  | none =>
   exfalso
   cases y with
   | rows rs g fz=>obtain ⟨Ls,h1,_⟩:=hr.rows b rs g fz hy;rw [h1] at hE;cases hE
   | mapb es=>obtain ⟨Ls,h1,_⟩:=hr.maps b es hy;rw [h1] at hE;cases hE
  | some Ls =>
   obtain ⟨L,hL,h1,h2,h3,h4,h5,h6⟩:=hm Ls hE
   subst h6
   refine ⟨a,c,rfl,?_⟩
   have e:min n l'=n:=by omega
   show VR E w (.ms b i (min n l') capo) _
   rw [e]
   refine .ms _ _ _ _ _ _ _ fun Ls' hLs' => ?_
   rw [hE] at hLs';injection hLs' with hLs';subst hLs'
   exact ⟨L,hL,by omega,by omega,h3,h4,h5,rfl⟩
 | _=>cases hl
theorem wbU (hT:wc P T) (hr:HR E w h) {t u ty:TypeId} {d x:AV} {vd vx:Value} (hd:VR E w d vd) (hx:VR E w x vx) (hld:Lt h.blks.length h.loops.length d) (hlx:Lt h.blks.length h.loops.length x)
  (hb:z6 T h t d x K):VOK P h E w (Builtin.copy_ #[t,u] ty #[vd,vx]) K:=by
 unfold z6 at hb
 split at hb
 ·exact hb.elim
 rename_i ti ht
 split at hb
 rotate_left
 ·exact hb.elim
 rename_i el hdesc
 split at hb
 ·exact hb.elim
 rename_i ei hei
 split at hb
 rotate_left
 ·exact hb.elim
 rename_i b i len capo
 split at hb
 rotate_left
 ·exact hb.elim
 rename_i rs hbl
 split at hb
 ·exact hb.elim
 rename_i l hl
 split at hb
 ·exact hb.elim
 rename_i new hnew
 obtain ⟨⟨hnl,hpos,hfit,hrs,hrows⟩,hk⟩:=hb
 obtain ⟨Ls,L,c,g1,hL,g2,g3,g4,g5,g6,k0,hk0,rfl⟩:=wH hr hd hbl
 have hlive:∀ b' i' len' c',x=.ms b' i' len' c'→∃ y,h.blk? b'=some y:=fun b' i' len' c' e=>by
  subst e
  simp only [wL,jo] at hnew
  split at hnew
  ·rename_i hb';exact ⟨_,hb'⟩
  ·cases hnew
 obtain ⟨base,cap,rfl,hv'⟩:=vbC (n:=min l len) hr hx hl (Nat.min_le_left _ _) hlive
 obtain ⟨ncs,fn,hlen,hfc⟩:=yam (P:=P) hr hv' hnew hrows hpos (fun ⟨s,hs⟩=>by
  cases x <;> simp [wL] at hs
  simp [uaa] at hl)
 have hnlt:∀ r∈new,∀ y∈r,Lt h.blks.length h.loops.length y:=by
  cases x with
  | nils=>simp only [wL,jo] at hnew;injection hnew with hnew;subst hnew;intro r hr' y hy;simp at hr'
  | vs es capo' =>
   simp only [wL,jo] at hnew;injection hnew with hnew;subst hnew
   cases hlx with
   | vs _ _ hl' =>
    intro r hr' y hy
    obtain ⟨i',hi',rfl⟩:=List.getElem_of_mem (List.mem_of_mem_take hr')
    obtain ⟨j,hj,rfl⟩:=List.getElem_of_mem hy
    exact hl' i' hi' j hj
  | ms b' i' len' c' =>
   simp only [wL,jo] at hnew
   split at hnew
   ·rename_i rs' g' fz' hbl'
    split at hnew
    ·injection hnew with hnew;subst hnew
     exact fun r hr' y hy=>hr.lt.blks _ _ hbl' r (List.mem_of_mem_drop (List.mem_of_mem_take hr')) y hy
    ·cases hnew
   ·cases hnew
  | _=>simp [uaa] at hl
 have hcells:=hfc w rfl
 rw [hnl] at hcells
 have hcells':(Builtin.firstCells ei.size (min l len) (.slice base l cap)).run P w=.ok ncs.toArray w:=by
  rw [← hcells]
  cases base <;> rfl
 obtain ⟨info,hi1,hi2,hi3⟩:∃ info,P.info? el=some info∧info.size=ei.size∧True:=by
  obtain ⟨_,info,h1,h2,_⟩:=hT.ok el ei hei
  exact ⟨info,h1,h2,trivial⟩
 have hsz:(sizeOf el).run P w=.ok ei.size w:=by
  simp [sizeOf,jV hi1,hi2]
 have hmin:Nat.min l len=min l len:=rfl
 cases new with
 | nil =>
  have h0:min l len=0:=by simpa using hnl.symm
  obtain rfl:ncs=[]:=List.eq_nil_of_length_eq_zero (by rw [fn.len];simp)
  refine .val hr (v:=.int .i64 0) ?_ (.int _ _) (.int _ _) hk
  have hst:(storeCells ⟨L.blk,L.off + k0 * L.sz,none⟩ [] 0).run P w=.ok () w:=rfl
  rw [h0] at hcells'
  simp [Builtin.copy_,jf hT ht,hdesc,Builtin.lenOf,hsz,hmin,hcells',goInt,storeCells,h0]
 | cons r0 rest =>
 have hrpos:0 < rs.length:=by simp at hnl;omega
 obtain rfl:i=k0:=by simp at hnl;omega
 have hla:=g2.all L hL
 obtain ⟨L0,hL0⟩:=g2.one rfl
 have hLL:Ls=[L]:=by
  rw [hL0] at hL ⊢
  obtain rfl:L=L0:=by simpa using hL
  rfl
 have hLlen:L.len=rs.length:=by
  obtain ⟨L2,h2,e⟩:=g2.now
  rw [hLL] at h2
  obtain rfl:L2=L:=by simpa using h2
  exact e
 have hLs:L.sz=ei.size:=by
  rw [← hla.sz 0 hrpos];exact hrs _ (List.getElem_mem hrpos)
 rw [← hLs] at fn
 have hfits:=hla.fits
 have hmul:(i + (r0 :: rest).length) * L.sz≤L.len * L.sz:=Nat.mul_le_mul_right _ (by omega)
 obtain ⟨E',w',L',s1,s2,s3,⟨Ls',s4,s5⟩,s6,s7,s8,s9,s10,s11⟩:=yaF (P:=P) (g':=false) (p:=i) hr hbl g1 g2 hL fn hnlt hLlen (by omega)
  (fun L2 h2 hne=>by
   rw [hLL] at h2
   obtain rfl:L2=L:=by simpa using h2
   exact absurd rfl hne) (by omega) (fun _=>hLL)
 refine ⟨_,_,E',w',.int .i64 (min l len:Nat),?_,hk,.int _ _,s2,.int _ _,by simp [Heap.put],Nat.le_refl _,s3⟩
 simp [Builtin.copy_,jf hT ht,hdesc,Builtin.lenOf,hsz,hmin,hcells',s1,goInt]
end sound
end
end Go.Abs

namespace Go.Abs
noncomputable section
variable [Gl]
def gQ (k:IntKind) (n:Int):List (AV × AV)→Nat→Option (Option (Nat × AV))
 | [],_=>some none
 | e :: es,i=>match e.1 with
  | .int k' a=>if k=k' then (if n=a then some (some (i,e.2)) else gQ k n es (i + 1)) else none
  | _=>none
def yR:TypeDesc→Bool
 | .int _=>true
 | _=>false
def waj (ti:TI):Option AV:=if vH ti.desc then none else ti.zero.head?
def zN (T:Tab) (h:Heap) (t:TypeId) (x ix:AV) (comma:Bool) (K:AV→Prop):Prop :=
 match T t with
 | none=>False
 | some ti=>match ti.desc with
  | .map key el=>match T key with
   | none=>False
   | some ki=>yR ki.desc=true∧(match ix with
    | .int k n=>match x with
     | .mp b=>match h.blk? b with
      | some (.mapb es)=>match gQ k n es 0 with
       | some (some r)=>K (if comma then .tup [r.2,.bool true] else r.2)
       | some none=>match T el with
        | none=>False
        | some ei=>match waj ei with
         | none=>False
         | some z=>K (if comma then .tup [z,.bool false] else z)
       | none=>False
      | _=>False
     | _=>False
    | _=>False)
  | _=>False
def jad (es:List (AV × AV)) (ix v:AV):Option (Nat × AV)→List (AV × AV)
 | some r=>es.set r.1 (ix,v)
 | none=>es ++ [(ix,v)]
def vad (T:Tab) (h:Heap) (t:TypeId) (x ix v:AV) (K:Heap→Prop):Prop :=
 match T t with
 | none=>False
 | some ti=>match ti.desc with
  | .map key _=>match T key with
   | none=>False
   | some ki=>yR ki.desc=true∧(match ix with
    | .int k n=>match x with
     | .mp b=>match h.blk? b with
      | some (.mapb es)=>match gQ k n es 0 with
       | some o=>K (h.put b (.mapb (jad es ix v o)))
       | none=>False
      | _=>False
     | _=>False
    | _=>False)
  | _=>False
section sound
variable {P:Program} {T:Tab} {E:Env} {w:World} {h:Heap} {K:AV→Heap→Prop}
theorem qat {k:IntKind} {n:Int} {kd:IntKind}:∀ (es:List (AV × AV)) (ces:List MapEntry) (i:Nat) (o:Option (Nat × AV)),es.length=ces.length →
  (∀ (j:Nat) (hi:j < es.length) (hj:j < ces.length),VR E w es[j].1 ces[j].key∧VR E w es[j].2 ces[j].val)→gQ k n es i=some o →
  match o with
  | none=>Instr.findNow (.int kd) (.int k n) ces i=some none
  | some r=>∃ v,Instr.findNow (.int kd) (.int k n) ces i=some (some (r.1,v))∧VR E w r.2 v∧i≤r.1∧r.1 < i + es.length∧∃ (hi:r.1 - i < es.length),es[r.1 - i]=(.int k n,r.2)
 | [],[],i,o,_,_,h=>by
  injection h with h;subst h;rfl
 | e :: es,c :: ces,i,o,hl,hv,h=>by
  unfold gQ at h
  have h0:=hv 0 (by simp) (by simp)
  simp only [List.getElem_cons_zero] at h0
  split at h
  ·rename_i k' a hk
   split at h
   ·rename_i hkk
    have hkey:c.key=.int k' a:=by
     have:=h0.1;rw [hk] at this;revert this;generalize c.key=kv;intro this;cases this;rfl
    split at h
    ·rename_i hna
     injection h with h;subst h
     refine ⟨c.val,by simp [Instr.findNow,Instr.sameNow,hkey,hkk,hna],h0.2,Nat.le_refl _,by simp,by simp,?_⟩
     obtain ⟨e1,e2⟩:=e
     simp only at hk;subst hk;subst hkk;subst hna
     simp
    ·rename_i hna
     have ih:=qat (k:=k) (n:=n) (kd:=kd) es ces (i + 1) o (by simpa using hl) (fun j hi hj=>hv (j + 1) (Nat.succ_lt_succ hi) (Nat.succ_lt_succ hj)) h
     have hne:(n == a)=false:=by simpa using hna
     cases o with
     | none=>simpa [Instr.findNow,Instr.sameNow,hkey,hkk,hne] using ih
     | some r =>
      obtain ⟨v,i1,i2,i3,i4,i5,i6⟩:=ih
      refine ⟨v,by simpa [Instr.findNow,Instr.sameNow,hkey,hkk,hne] using i1,i2,by omega,by simp;omega,by simp;omega,?_⟩
      have e:r.1 - i=(r.1 - (i + 1)) + 1:=by omega
      simp only [e,List.getElem_cons_succ]
      exact i6
   ·cases h
  ·cases h
 | [],_ :: _,_,_,hl,_,_=>by simp at hl
 | _ :: _,[],_,_,hl,_,_=>by simp at hl
theorem xaN {d:TypeDesc} (h:yR d=true):∃ k,d=.int k:=by
 cases d <;> simp [yR] at h;exact ⟨_,rfl⟩
theorem za6 (hT:wc P T) {key:TypeId} {ki:TI} (hk:T key=some ki) (hi:yR ki.desc=true) (b:Bool) (n:Nat) (k:IntKind) (a:Int) :
  (Instr.checkKey b (n + 1) key (.int k a)).run P w=.ok () w:=by
 obtain ⟨kd,hd⟩:=xaN hi
 simp [Instr.checkKey,jf hT hk,hd]
theorem qa5 (hT:wc P T) {key:TypeId} {ki:TI} {kd:IntKind} (hk:T key=some ki) (hd:ki.desc=.int kd) {v:Value} {es:List MapEntry} {o:Option (Nat × Value)} (h:Instr.findNow (.int kd) v es 0=some o) :
  (Instr.findKey key v es).run P w=.ok o w:=by
 unfold Instr.findKey
 rw [Sem.run_bind,jf hT hk,Result.andThen_ok,hd,h]
 rfl
theorem gbS (hr:HR E w h) {t:TypeId} (hk:K (.mp h.blks.length) (h.push (.mapb []))):VOK P h E w (Instr.makeMap t none) K:=by
 obtain ⟨p1,p2⟩:=gb3 (E:=E) (w:=w) (w':={ w with heap:=w.heap.push (.map #[] 0) }) hr (clock:=0) rfl rfl rfl rfl
 refine ⟨_,_,_,_,.map (some w.heap.size),?_,hk,.mp _ _ fun Ls hLs => ?_,p1,.mp _ (by simp [Heap.push]),by simp [Heap.push],Nat.le_refl _,p2⟩
 ·simp [Instr.makeMap,newObj,bind,Sem.bind,Sem.run,pure]
 ·have e0:(E.with h.blks.length [⟨w.heap.size,0,0,0,0⟩]).ρ h.blks.length=some [⟨w.heap.size,0,0,0,0⟩]:=by
   show (if _ then _ else _)=_;rw [if_pos rfl]
  have e1:=hLs.symm.trans e0
  injection e1 with e1;subst e1
  exact ⟨_,List.mem_singleton.2 rfl,rfl⟩
theorem wbL (hT:wc P T) {e:TypeId} {ei:TI} {z:AV} (he:T e=some ei) (hz:waj ei=some z):∃ v,(zeroValue e).run P w=.ok v w∧VR E w z v∧∀ n m,Lt n m z:=by
 obtain ⟨_,info,h1,h2,_,zz,h3,h4,h5,h6,h7,h8⟩:=hT.ok e ei he
 refine ⟨zz,by simp [zeroValue,jV h1,h3],?_⟩
 unfold waj at hz
 split at hz
 ·cases hz
 ·rename_i ha
  have hc:=h8 (by simpa using ha)
  rw [hc] at h4
  have h4:[ofV zz]=ei.zero:=by simpa using h4
  rw [← h4] at hz
  have hz:ofV zz=z:=by simpa using hz
  subst hz
  exact ⟨gao _ _ _,fun n m=>xaI _ _ _⟩
theorem zbg {b:Nat} {es:List (AV × AV)} (hr:HR E w h) (hb:h.blk? b=some (.mapb es)):∀ e∈es,Lt h.blks.length h.loops.length e.1∧Lt h.blks.length h.loops.length e.2:=hr.lt.blks b _ hb
theorem ybT (hT:wc P T) (hr:HR E w h) {t:TypeId} {x ix:AV} {vx vi:Value} {comma:Bool} (hx:VR E w x vx) (hi:VR E w ix vi)
  (hb:zN T h t x ix comma (fun r=>K r h)):VOK P h E w (Instr.lookup t vx vi comma) K:=by
 unfold zN at hb
 split at hb
 ·exact hb.elim
 ·rename_i ti ht
  split at hb
  ·rename_i key el hd
   split at hb
   ·exact hb.elim
   ·rename_i ki hki
    obtain ⟨hint,hb⟩:=hb
    split at hb
    ·rename_i k n
     cases hi
     split at hb
     ·rename_i b
      split at hb
      ·rename_i es hbl
       obtain ⟨L,ces,clock,e1,rfl,e2,e3,e4,e5⟩:=zaK hr hx hbl
       obtain ⟨kd,hkd⟩:=xaN hint
       have hl:=zbg hr hbl
       have pre:∀ (o:Option (Nat × Value)),Instr.findNow (.int kd) (.int k n) ces.toList 0=some o→(Instr.lookup t (.map (some L.blk)) (.int k n) comma).run P w =
         ((match o with | some (_,v)=>(pure (v,true):Sem (Value × Bool)) | none=>do pure (← zeroValue el,false)) >>= fun p=>(pure (if comma then .tuple #[p.1,.bool p.2] else p.1):Sem Value)).run P w:=fun o ho=>by
        unfold Instr.lookup
        rw [Sem.run_bind,jf hT ht,Result.andThen_ok,hd]
        simp only [Sem.run_bind,gaC e3,Result.andThen_ok,Sem.run_pure,za6 hT hki hint (ces.isEmpty) 9999 k n,qa5 hT hki hkd ho]
        cases o with
        | none=>simp only [Sem.run_bind,Sem.run_pure];cases (zeroValue el).run P w <;> rfl
        | some p=>simp
       split at hb
       ·rename_i r hf
        obtain ⟨v,i1,i2,i3,i4,i5,i6⟩:=qat (E:=E) (w:=w) (kd:=kd) es ces.toList 0 (some r) (by simpa using e4) (fun j h1 h2=>by simpa using e5 j h1 (by simpa using h2)) hf
        have hlr:Lt h.blks.length h.loops.length r.2:=by
         have:=hl _ (List.getElem_mem i5)
         rw [i6] at this
         exact this.2
        cases comma with
        | true =>
         refine .val hr (v:=.tuple #[v,.bool true]) ?_ (.tup _ _ rfl fun i h1 h2 => ?_) (.tup _ fun i h1 => ?_) hb
         ·rw [pre _ i1];rfl
         ·match i,h1,h2 with
          | 0,_,_=>exact i2
          | 1,_,_=>exact .bool _
         ·match i,h1 with
          | 0,_=>exact hlr
          | 1,_=>exact .bool _
        | false=>exact .val hr (v:=v) (by rw [pre _ i1];rfl) i2 hlr hb
       ·rename_i hf
        have i1:=qat (E:=E) (w:=w) (kd:=kd) es ces.toList 0 none (by simpa using e4) (fun j h1 h2=>by simpa using e5 j h1 (by simpa using h2)) hf
        split at hb
        ·exact hb.elim
        ·rename_i ei hei
         split at hb
         ·exact hb.elim
         ·rename_i z hz
          obtain ⟨v,z1,z2,z3⟩:=wbL (E:=E) (w:=w) hT hei hz
          cases comma with
          | true =>
           refine .val hr (v:=.tuple #[v,.bool false]) ?_ (.tup _ _ rfl fun i h1 h2 => ?_) (.tup _ fun i h1 => ?_) hb
           ·rw [pre _ i1];simp [z1]
           ·match i,h1,h2 with
            | 0,_,_=>exact z2
            | 1,_,_=>exact .bool _
           ·match i,h1 with
            | 0,_=>exact z3 _ _
            | 1,_=>exact .bool _
          | false=>exact .val hr (v:=v) (by rw [pre _ i1];simp [z1]) z2 (z3 _ _) hb
       ·exact hb.elim
      ·exact hb.elim
     ·exact hb.elim
    ·exact hb.elim
  ·exact hb.elim
theorem vbL {r:Nat} {o:Obj} {es:Array MapEntry} {clock:Nat} (h:w.heap[r]? = some (.map es clock)):(setObj r o).run P w=.ok () { w with heap:=w.heap.setIfInBounds r o }:=by
 simp [setObj,Sem.run,h]
theorem xbc (hT:wc P T) (hr:HR E w h) {t:TypeId} {x ix v:AV} {vx vi vv:Value} {K:Heap→Prop} (hx:VR E w x vx) (hi:VR E w ix vi) (hv:VR E w v vv) (hlv:Lt h.blks.length h.loops.length v)
  (hb:vad T h t x ix v K):∃ h' w',(Instr.mapUpdate t vx vi vv).run P w=.ok () w'∧K h'∧HR E w' h'∧Ext h.blks.length h.loops.length E w E w'∧h'.blks.length=h.blks.length∧h'.loops.length=h.loops.length:=by
 unfold vad at hb
 split at hb
 ·exact hb.elim
 ·rename_i ti ht
  split at hb
  ·rename_i key el hd
   split at hb
   ·exact hb.elim
   ·rename_i ki hki
    obtain ⟨hint,hb⟩:=hb
    split at hb
    ·rename_i k n
     cases hi
     split at hb
     ·rename_i b
      split at hb
      ·rename_i es hbl
       obtain ⟨L,ces,clock,e1,rfl,e2,e3,e4,e5⟩:=zaK hr hx hbl
       obtain ⟨kd,hkd⟩:=xaN hint
       have hl:=zbg hr hbl
       have hBl:L.blk < w.heap.size:=hr.inside _ e2
       have fin:∀ (es':List (AV × AV)) (ces':Array MapEntry) (clock':Nat),es'.length=ces'.size→(∀ (i:Nat) (hi:i < es'.length) (hj:i < ces'.size),VR E w es'[i].1 ces'[i].key∧VR E w es'[i].2 ces'[i].val) →
         (∀ e∈es',Lt h.blks.length h.loops.length e.1∧Lt h.blks.length h.loops.length e.2)→K (h.put b (.mapb es')) →
         ∃ h' w',(setObj L.blk (.map ces' clock')).run P w=.ok () w'∧K h'∧HR E w' h'∧Ext h.blks.length h.loops.length E w E w'∧h'.blks.length=h.blks.length∧h'.loops.length=h.loops.length:=fun es' ces' clock' g1 g2 g3 g4=>by
        obtain ⟨p1,p2⟩:=qb3 (w':={ w with heap:=w.heap.setIfInBounds L.blk (.map ces' clock') }) hr hbl e1 rfl rfl rfl (by simp) (fun B hB hne=>by simp [Array.getElem?_setIfInBounds_ne hne])
         (clock:=clock') (by simp [hBl]) g1 g2 g3
        exact ⟨_,_,vbL e3,g4,p1,p2,by simp [Heap.put],rfl⟩
       split at hb
       ·rename_i o hf
        have hfn:=qat (E:=E) (w:=w) (kd:=kd) es ces.toList 0 o (by simpa using e4) (fun j h1 h2=>by simpa using e5 j h1 (by simpa using h2)) hf
        have pre:∀ (o:Option (Nat × Value)),Instr.findNow (.int kd) (.int k n) ces.toList 0=some o→(Instr.mapUpdate t (.map (some L.blk)) (.int k n) vv).run P w =
          ((match o with
          | some (i,_)=>do
           let key ← Instr.keyThatStays (((ces[i]?).map (·.key)).getD (.int k n)) (.int k n)
           setObj L.blk (.map (ces.modify i fun e=>{ e with key,val:=vv }) clock)
          | none=>setObj L.blk (.map (ces.push { key:=.int k n,val:=vv,born:=clock }) (clock + 1)):Sem Unit)).run P w:=fun o ho=>by
         unfold Instr.mapUpdate
         rw [Sem.run_bind,jf hT ht,Result.andThen_ok,hd]
         simp only [Sem.run_bind,gaC e3,Result.andThen_ok,za6 hT hki hint false 9999 k n,qa5 hT hki hkd ho]
         cases o <;> rfl
        cases o with
        | none =>
         rw [pre _ hfn]
         refine fin (es ++ [(.int k n,v)]) _ _ (by simp [e4]) (fun i h1 h2 => ?_) (fun e he => ?_) hb
         ·simp only [List.length_append,List.length_singleton] at h1
          rcases Nat.lt_or_ge i es.length with hlt | hge
          ·rw [List.getElem_append_left hlt,Array.getElem_push_lt (by omega)]
           exact e5 i hlt (by omega)
          ·have e:i=es.length:=by omega
           subst e
           rw [List.getElem_append_right (Nat.le_refl _)]
           have:(ces.push { key:=.int k n,val:=vv,born:=clock })[es.length]={ key:=.int k n,val:=vv,born:=clock }:=by
            simp [e4]
           rw [this]
           simp only [Nat.sub_self,List.getElem_cons_zero]
           exact ⟨.int _ _,hv⟩
         ·rcases List.mem_append.1 he with he | he
          ·exact hl e he
          ·obtain rfl:e=(.int k n,v):=by simpa using he
           exact ⟨.int _ _,hlv⟩
        | some r =>
         obtain ⟨v0,i1,i2,i3,i4,i5,i6⟩:=hfn
         rw [pre _ i1]
         simp only [Nat.sub_zero] at i5 i6
         have hc:r.1 < ces.size:=by omega
         have hkey:ces[r.1].key=.int k n:=by
          have:=(e5 r.1 i5 hc).1
          rw [i6] at this
          revert this;generalize ces[r.1].key=kv;intro this;cases this;rfl
         have hks:(Instr.keyThatStays (((ces[r.1]?).map (·.key)).getD (.int k n)) (.int k n)).run P w=.ok (.int k n) w:=by
          simp [hc,hkey,Instr.keyThatStays,Instr.sameBits]
         simp only [Sem.run_bind,hks,Result.andThen_ok]
         refine fin _ _ _ (by simp [jad,e4]) (fun i h1 h2 => ?_) (fun e he => ?_) hb
         ·simp only [jad,List.length_set] at h1
          simp only [jad,List.getElem_set,Array.getElem_modify]
          split
          ·exact ⟨.int _ _,hv⟩
          ·exact e5 i h1 (by omega)
         ·rcases List.mem_or_eq_of_mem_set he with he | he
          ·exact hl e he
          ·rw [he];exact ⟨.int _ _,hlv⟩
       ·exact hb.elim
      ·exact hb.elim
     ·exact hb.elim
    ·exact hb.elim
  ·exact hb.elim
end sound
end
end Go.Abs
