/-
  Steps to a law of this program: AbsOps3, AbsOps4, AbsOps5.
  Conditions: none.
-/
import Derived.Test.YtpdnijifmebnbaaGreatDoorB3
import Derived.Laws.StructEq
import Derived.ChangeKeysEq
set_option linter.unusedVariables false
set_option linter.unusedSimpArgs false
set_option linter.unusedSectionVars false
namespace Go.Abs
noncomputable section
variable [Gl]
section ops
variable {P:Program} {T:Tab} {h:Heap} {E:Env} {w:World} {K:AV→Heap→Prop}
inductive OVR (E:Env) (w:World):Option AV→Option Value→Prop where
 | none:OVR E w none none
 | some (x:AV) (v:Value) (h:VR E w x v):OVR E w (some x) (some v)
omit [Gl] in
theorem qP {x:Int} {k:IntKind} {y:Nat} {code:BoundsCode} (h0:0≤x) (h1:x≤y):(Instr.sliceBound (.int k x) y code).run P w=.ok x.toNat w:=by
 simp [Instr.sliceBound,asIntOf,h0,h1]
theorem gal {isSlice:Bool} {len cap:Nat} {lo hi:Option AV} {vlo vhi:Option Value} {l u:Int} (hlo:OVR E w lo vlo) (hhi:OVR E w hi vhi) (hl:gu lo=some l) (hu:gz len hi=some u)
  (h0:0≤l) (h1:l≤u) (h2:u≤cap):(Instr.sliceBounds isSlice len cap vlo vhi none).run P w=.ok (l.toNat,u.toNat,cap) w:=by
 cases hhi with
 | none =>
  simp only [gz,Option.some.injEq] at hu
  subst hu
  cases hlo with
  | none=>simp only [gu,Option.some.injEq] at hl;subst hl;simp [Instr.sliceBounds]
  | some x v hv =>
   cases x <;> simp only [gu] at hl <;> first | (cases hl;done) | skip
   injection hl with hl;subst hl
   cases hv
   simp [Instr.sliceBounds,qP h0 h1]
 | some y vy hy =>
  cases y <;> simp only [gz] at hu <;> first | (cases hu;done) | skip
  injection hu with hu;subst hu
  cases hy
  rename_i k n
  have e:((n.toNat:Nat):Int)=n:=by omega
  cases hlo with
  | none=>simp only [gu,Option.some.injEq] at hl;subst hl;simp [Instr.sliceBounds,qP (Int.le_trans h0 h1) h2]
  | some x v hv =>
   cases x <;> simp only [gu] at hl <;> first | (cases hl;done) | skip
   injection hl with hl;subst hl
   cases hv
   simp [Instr.sliceBounds,qP (Int.le_trans h0 h1) h2,qP h0 (e ▸ h1:_≤((n.toNat:Nat):Int))]
theorem yaD {isSlice:Bool} {len cap:Nat} {lo hi:Option AV} {vlo vhi:Option Value} {l u m:Int} {km:IntKind} (hlo:OVR E w lo vlo) (hhi:OVR E w hi vhi) (his:hi.isSome=true) (hl:gu lo=some l) (hu:gz len hi=some u)
  (h0:0≤l) (h1:l≤u) (h2:u≤m) (h3:m≤cap):(Instr.sliceBounds isSlice len cap vlo vhi (some (.int km m))).run P w=.ok (l.toNat,u.toNat,m.toNat) w:=by
 have em:((m.toNat:Nat):Int)=m:=by omega
 cases hhi with
 | none=>cases his
 | some y vy hy =>
  cases y <;> simp only [gz] at hu <;> first | (cases hu;done) | skip
  injection hu with hu;subst hu
  cases hy
  rename_i k n
  have e:((n.toNat:Nat):Int)=n:=by omega
  have b1:∀ code,(Instr.sliceBound (.int k n) m.toNat code).run P w=.ok n.toNat w:=fun code=>qP (Int.le_trans h0 h1) (em ▸ h2)
  have b2:∀ code,(Instr.sliceBound (.int km m) cap code).run P w=.ok m.toNat w:=fun code=>qP (Int.le_trans (Int.le_trans h0 h1) h2) h3
  cases hlo with
  | none=>simp only [gu,Option.some.injEq] at hl;subst hl;simp [Instr.sliceBounds,b1,b2]
  | some x v hv =>
   cases x <;> simp only [gu] at hl <;> first | (cases hl;done) | skip
   injection hl with hl;subst hl
   cases hv
   simp [Instr.sliceBounds,b1,b2,qP h0 (e ▸ h1:_≤((n.toNat:Nat):Int))]
omit [Gl] in
theorem vbq (s:List UInt8) (l u:Nat):(⟨s.toArray⟩:ByteArray).extract l u=⟨((s.take u).drop l).toArray⟩:=by
 have:((⟨s.toArray⟩:ByteArray).extract l u).data=((s.take u).drop l).toArray:=by
  rw [ByteArray.data_extract]
  simp [List.drop_take]
 exact congrArg ByteArray.mk this
omit [Gl] in
theorem VR.str' {s:List UInt8} {v:ByteArray} (h:v=⟨s.toArray⟩):VR E w (.str s) (.string v):=h ▸ .str s
omit [Gl] in
theorem uau {α:Type} (es:List α) (l u t:Nat) (ht:t < ((es.take u).drop l).length):∃ h:l + t < es.length,((es.take u).drop l)[t]=es[l + t]:=by
 simp only [List.length_drop,List.length_take] at ht
 exact ⟨by omega,by simp⟩
theorem qbf {n m l u:Nat} {es:List (List AV)} {capo capo':Option Nat} (hl:Lt n m (.vs es capo)):Lt n m (.vs ((es.take u).drop l) capo'):=by
 cases hl with
 | vs _ _ hl =>
  refine .vs _ _ fun i hi j hj => ?_
  obtain ⟨h1,h2⟩:=uau es l u i hi
  have:=hl (l + i) h1 j (by rw [← h2];exact hj)
  have e:((es.take u).drop l)[i][j]=es[l + i][j]'(by rw [← h2];exact hj):=by simp
  rw [e];exact this
omit [Gl] in
theorem w9 {capo:Option Nat} {a:Addr} {cap:Nat} (ha:a.spot=none) (hk:∀ k,capo=some k→cap=k):VR E w (.vs [] capo) (.slice (some a) 0 cap):=by
 obtain ⟨B,o,sp⟩:=a
 obtain rfl:sp=none:=ha
 exact VR.vs [] capo B o cap 0 (fun _ _=>undef) (Nat.zero_le _) hk (fun i hi=>by simp at hi) (fun i hi=>by simp at hi) (fun i hi=>by simp at hi)
def cut (a:Option Addr) (l m size:Nat):Option Addr:=if m=l then a else a.map (·.add (l * size))
theorem qV (hT:wc P T) {t e:TypeId} {ti ei:TI} (ht:T t=some ti) (hd:ti.desc=.slice e) (hei:T e=some ei) {a:Option Addr} {len cap l u m:Nat} {vlo vhi vmx:Option Value}
  (hb:(Instr.sliceBounds true len cap vlo vhi vmx).run P w=.ok (l,u,m) w) :
  (Instr.slice t (.slice a len cap) vlo vhi vmx).run P w=.ok (.slice (cut a l m ei.size) (u - l) (m - l)) w:=by
 simp only [Instr.slice,Sem.run_bind,jf hT ht,Result.andThen_ok,hd,hb,zq hT hei,cut]
 rfl
theorem xaZ {es:List (List AV)} {capo':Option Nat} {B off sz size l u m:Nat} {vals:Nat→Nat→Value} (hu:u≤es.length) (hlu:l≤u) (hum:u≤m)
  (hsz:∀ (i:Nat) (hi:i < es.length),es[i].length=sz) (hsize:∀ row∈es,row.length=size)
  (hF:∀ (i:Nat) (hi:i < es.length) (j:Nat) (hj:j < es[i].length),¬ E.F B∧w.cell? ⟨B,off + i * sz + j,none⟩=some (vals i j))
  (hh:∀ (i:Nat) (hi:i < es.length) (j:Nat) (hj:j < es[i].length),VR E w es[i][j] (vals i j)) (hk:∀ k,capo'=some k→m - l=k) :
  VR E w (.vs ((es.take u).drop l) capo') (.slice (cut (some ⟨B,off,none⟩) l m size) (u - l) (m - l)):=by
 by_cases hul:u=l
 ·have e:(es.take u).drop l=[]:=by apply List.eq_nil_of_length_eq_zero;simp;omega
  rw [e,hul,Nat.sub_self]
  unfold cut
  split
  ·exact w9 rfl hk
  ·simp only [Option.map_some,Addr.add_none];exact w9 rfl hk
 ·have hml:¬ m=l:=by omega
  have hlen:((es.take u).drop l).length=u - l:=by simp;omega
  have hss:size=sz:=by
   have h0:l < es.length:=by omega
   rw [← hsize _ (List.getElem_mem h0),hsz l h0]
  simp only [cut,if_neg hml,Option.map_some,Addr.add_none]
  have key:=VR.vs (E:=E) (w:=w) ((es.take u).drop l) capo' B (off + l * size) (m - l) sz (fun i j=>vals (l + i) j) (by rw [hlen];omega) hk
   (fun i hi=>by obtain ⟨h1,h2⟩:=uau es l u i hi;rw [h2];exact hsz _ h1)
   (fun i hi j hj=>by
    obtain ⟨h1,h2⟩:=uau es l u i hi
    have:=hF (l + i) h1 j (by rw [← h2];exact hj)
    rw [hss,show off + l * sz + i * sz + j=off + (l + i) * sz + j from by rw [Nat.add_mul];omega];exact this)
   (fun i hi j hj=>by
    obtain ⟨h1,h2⟩:=uau es l u i hi
    have:=hh (l + i) h1 j (by rw [← h2];exact hj)
    have e:((es.take u).drop l)[i][j]=es[l + i][j]'(by rw [← h2];exact hj):=by simp
    rw [e];exact this)
  rw [hlen] at key
  exact key
theorem ybe {b s k0 len c l u m:Nat} {capo':Option Nat} {Ls:List Loc} {L:Loc} (h1:E.ρ b=some Ls) (hL:L∈Ls) (h3:s + len≤L.len) (h5:L.off + (s + c) * L.sz≤L.n)
  (hlu:l≤u) (hum:u≤m) (hul:u≤len) (hmc:m≤c) (hk:∀ k,capo'=some k→m - l=k) (hk0:c=0∨k0=s) :
  VR E w (.ms b (s + l) (u - l) capo') (.slice (cut (some ⟨L.blk,L.off + k0 * L.sz,none⟩) l m L.sz) (u - l) (m - l)):=by
 refine .ms _ _ _ _ _ _ _ fun Ls' hLs' => ?_
 rw [h1] at hLs';injection hLs' with hLs';subst hLs'
 refine ⟨L,hL,by omega,by omega,?_,hk,⟨if m=l then k0 else s + l,by split <;> omega,?_⟩,rfl⟩
 ·have:(s + l + (m - l)) * L.sz≤(s + c) * L.sz:=Nat.mul_le_mul_right _ (by omega)
  omega
 ·unfold cut
  by_cases hml:m=l
  ·rw [if_pos hml,if_pos hml]
  ·rw [if_neg hml,if_neg hml]
   obtain rfl:s=k0:=by omega
   simp only [Option.map_some,Addr.add_none]
   rw [show L.off + s * L.sz + l * L.sz=L.off + (s + l) * L.sz from by rw [Nat.add_mul];omega]
theorem vbS (hT:wc P T) (hr:HR E w h) {t:TypeId} {x:AV} {v:Value} {lo hi mx:Option AV} {vlo vhi vmx:Option Value} (hv:VR E w x v) (hlo:OVR E w lo vlo) (hhi:OVR E w hi vhi) (hmx:OVR E w mx vmx)
  (hl:Lt h.blks.length h.loops.length x) (hx:vr T h t x lo hi mx (fun r=>K r h)):VOK P h E w (Instr.slice t v vlo vhi vmx) K:=by
 unfold vr at hx
 split at hx
 ·exact hx.elim
 ·rename_i ti ht
  split at hx
  ·rename_i s hd
   split at hx
   ·rename_i l u hl1 hu1
    obtain ⟨⟨h0,h1,h2⟩,hk⟩:=hx
    cases hmx
    cases hv
    have hb:=gal (P:=P) (isSlice:=false) (cap:=s.length) hlo hhi hl1 hu1 h0 h1 h2
    refine .val hr (v:=.string ((⟨s.toArray⟩:ByteArray).extract l.toNat u.toNat)) ?_ (VR.str' (vbq s _ _)) (.str _) hk
    simp [Instr.slice,jf hT ht,hd,wV,hb]
   ·exact hx.elim
  ·rename_i e es capo hd
   cases hv with
   | vs _ _ B off cap sz vals hlen hcap hsz hF hh =>
    split at hx
    ·rename_i ei l u hei hl1 hu1
     obtain ⟨⟨h0,h1,h2⟩,hrow,hk⟩:=hx
     cases hmx
     have hb:=gal (P:=P) (isSlice:=true) (cap:=cap) hlo hhi hl1 hu1 h0 h1 (by omega)
     refine .val hr (qV hT ht hd hei hb) (xaZ (by omega) (by omega) (by omega) hsz hrow hF hh (fun k hk => ?_)) (qbf hl) hk
     cases capo with
     | none=>cases hk
     | some k'=>simp only [Option.map_some,Option.some.injEq] at hk;rw [hcap k' rfl];exact hk
    ·rename_i ei l u km m hei hl1 hu1
     obtain ⟨his,⟨h0,h1,h2,h3⟩,hrow,hk⟩:=hx
     cases hmx with
     | some _ _ hm =>
      cases hm
      have hb:=yaD (P:=P) (isSlice:=true) (cap:=cap) (km:=km) hlo hhi his hl1 hu1 h0 h1 h2 (by omega)
      exact .val hr (qV hT ht hd hei hb) (xaZ (by omega) (by omega) (by omega) hsz hrow hF hh (fun k hk=>by injection hk)) (qbf hl) hk
    ·exact hx.elim
  ·rename_i e hd
   cases hv
   split at hx
   ·rename_i ei l u hei hl1 hu1
    obtain ⟨⟨rfl,rfl⟩,hk⟩:=hx
    cases hmx
    have hb:=gal (P:=P) (w:=w) (isSlice:=true) (cap:=0) hlo hhi hl1 hu1 (by omega) (by omega) (by omega)
    exact .val hr (qV hT ht hd hei (a:=none) hb) .nils .nils hk
   ·rename_i ei l u km m hei hl1 hu1
    obtain ⟨his,⟨rfl,rfl,rfl⟩,hk⟩:=hx
    cases hmx with
    | some _ _ hm =>
     cases hm
     have hb:=yaD (P:=P) (w:=w) (isSlice:=true) (cap:=0) (km:=km) (m:=0) hlo hhi his hl1 hu1 (by omega) (by omega) (by omega) (by omega)
     exact .val hr (qV hT ht hd hei (a:=none) hb) .nils .nils hk
   ·exact hx.elim
  ·rename_i e b s len capo hd
   split at hx
   ·rename_i ei l u hei hl1 hu1
    have size:∀ (rs:List (List AV)) (g fz:Bool) (Ls:List Loc) (L:Loc) (m:Nat) (a:Option Addr),h.blk? b=some (.rows rs g fz)→L∈Ls→RowsAt E w Ls rs g fz→s + len≤L.len→(∀ row∈rs,row.length=ei.size)→l.toNat≤len →
      (∃ B o,a=some ⟨B,o,none⟩)→cut a l.toNat m ei.size=cut a l.toNat m L.sz:=by
     intro rs g fz Ls L m a hb hL g2 g3 hrow hll ⟨B,o,ha⟩
     by_cases hrs:rs.length=0
     ·have:=(g2.all L hL).len
      have hl0:l.toNat=0:=by omega
      subst ha
      simp [cut,hl0,Addr.add]
     ·have h0:0 < rs.length:=by omega
      have:L.sz=ei.size:=by rw [← (g2.all L hL).sz 0 h0];exact hrow _ (List.getElem_mem h0)
      rw [this]
    split at hx
    ·obtain ⟨⟨h0,h1,h2⟩,hblk,hk⟩:=hx
     split at hblk
     ·rename_i rs g fz hb
      obtain ⟨Ls,L,c,g1,hL,g2,g3,g4,g5,g6,k0,hk0,rfl⟩:=wH hr hv hb
      cases hmx
      have hbd:=gal (P:=P) (w:=w) (isSlice:=true) (cap:=c) hlo hhi hl1 hu1 h0 h1 (by omega)
      have hsl:=qV hT ht hd hei (a:=some ⟨L.blk,L.off + k0 * L.sz,none⟩) hbd
      rcases hk with ⟨hpos,hk⟩ | ⟨rfl,hk⟩
      ·rw [size rs g fz Ls L c _ hb hL g2 g3 hblk (by omega) ⟨_,_,rfl⟩] at hsl
       refine .val hr hsl (ybe g1 hL g3 g5 (by omega) (by omega) (by omega) (by omega) (fun k hk => ?_) hk0) (by cases hl with | ms _ _ _ _ hl=>exact .ms _ _ _ _ hl) hk
       cases capo with
       | none=>cases hk
       | some k'=>simp only [Option.map_some,Option.some.injEq] at hk;rw [g6 k' rfl];exact hk
      ·refine .val hr hsl ?_ (.vs _ _ fun i hi=>by simp at hi) hk
       rw [Nat.sub_self]
       unfold cut
       split
       ·exact w9 rfl (fun _ h=>by cases h)
       ·simp only [Option.map_some,Addr.add_none];exact w9 rfl (fun _ h=>by cases h)
     ·exact hblk.elim
    ·rename_i km m
     obtain ⟨his,⟨h0,h1,h2,h3⟩,hblk,hk⟩:=hx
     split at hblk
     ·rename_i rs g fz hb
      obtain ⟨Ls,L,c,g1,hL,g2,g3,g4,g5,g6,k0,hk0,rfl⟩:=wH hr hv hb
      cases hmx with
      | some _ _ hm =>
       cases hm
       have hbd:=yaD (P:=P) (w:=w) (isSlice:=true) (cap:=c) (km:=km) hlo hhi his hl1 hu1 h0 h1 h2 (by omega)
       have hsl:=qV hT ht hd hei (a:=some ⟨L.blk,L.off + k0 * L.sz,none⟩) hbd
       rcases hk with ⟨hpos,hk⟩ | ⟨rfl,hk⟩
       ·rw [size rs g fz Ls L _ _ hb hL g2 g3 hblk (by omega) ⟨_,_,rfl⟩] at hsl
        exact .val hr hsl (ybe g1 hL g3 g5 (by omega) (by omega) (by omega) (by omega) (fun k hk=>by injection hk) hk0) (by cases hl with | ms _ _ _ _ hl=>exact .ms _ _ _ _ hl) hk
       ·refine .val hr hsl ?_ (.vs _ _ fun i hi=>by simp at hi) hk
        rw [Nat.sub_self,show u.toNat - l.toNat=0 from by omega]
        unfold cut
        rw [if_pos rfl]
        exact w9 rfl (fun k h=>by injection h)
     ·exact hblk.elim
    ·exact hx.elim
   ·exact hx.elim
  ·exact hx.elim
theorem zaD (hT:wc P T):∀ (n d:Nat) (t:TypeId) (b:Bool) (x y:AV) (vx vy:Value),VR E w x vx→VR E w y vy→eqA T n t x y=some b→n≤d + 1 →
  (Op.equalIn (d + 1) t vx vy).run P w=.ok b w
 | 0,_,_,_,_,_,_,_,_,_,h,_=>by cases h
 | n + 1,d,t,b,x,y,vx,vy,hx,hy,h,hn=>by
  simp only [eqA] at h
  split at h
  ·cases h
  ·rename_i ti ht
   split at h
   ·rename_i a c hd
    injection h with h;subst h
    cases hx;cases hy
    simp [Op.equalIn,jf hT ht,hd]
   ·rename_i k k1 a k2 c hd
    split at h
    ·rename_i hk
     injection h with h;subst h
     cases hx;cases hy
     simp [Op.equalIn,jf hT ht,hd,hk]
    ·cases h
   ·rename_i a c hd
    injection h with h;subst h
    cases hx;cases hy
    have e:((⟨a.toArray⟩:ByteArray) == ⟨c.toArray⟩)=(a == c):=by
     rw [beq_toListBytes,yaz,yaz]
    simp [Op.equalIn,jf hT ht,hd,e]
   ·rename_i fs xs ys hd
    split at h
    ·rename_i hc
     cases hx with
     | agg _ vxs hsx hx =>
     cases hy with
     | agg _ vys hsy hy =>
      have hu:P.underlying t=some (.struct (P.fieldsOf t)):=by
       have:=(hT.ok t ti ht).1
       rw [hd] at this
       simp [Program.fieldsOf,this]
      have hfs:P.fieldsOf t=fs:=by
       have:=(hT.ok t ti ht).1
       rw [hd] at this
       simp [Program.fieldsOf,this]
      rw [run_equalIn_struct w d t vxs vys hu (hT.cmp t ti ht hc).1,hfs]
      cases d with
      | zero =>
       have hn0:n=0:=by omega
       subst hn0
       revert h b
       cases fs.toList with
       | nil=>intro b h;injection h with h;subst h;simp [Op.eqFields]
       | cons f r =>
        intro b h
        simp only [xau] at h
        split at h
        ·cases h
        ·split at h
         ·cases h
         ·split at h
          ·split at h
           ·rename_i h1 _;simp [eqA] at h1
           ·cases h
          ·cases h
      | succ d =>
       have ih:=fun t b x y vx vy hx hy h=>zaD hT n d t b x y vx vy hx hy h (by omega)
       revert h b
       generalize fs.toList=l
       induction l with
       | nil=>intro b h;injection h with h;subst h;simp [Op.eqFields]
       | cons f r ihr =>
        intro b h
        simp only [xau] at h
        split at h
        ·cases h
        ·rename_i hname
         split at h
         ·cases h
         ·rename_i fi hfi
          split at h
          ·rename_i a c ha hcc
           split at h
           ·rename_i p q hp hq
            injection h with h;subst h
            obtain ⟨va,ra,vra⟩:=zX hT hfi hsx hx ha
            obtain ⟨vc,rc,vrc⟩:=zX hT hfi hsy hy hcc
            have e1:=ih f.type p a c va vc vra vrc hp
            have e2:=ihr q hq
            cases p
            ·simp [Op.eqFields,hname,ra,rc,e1]
            ·simp [Op.eqFields,hname,ra,rc,e1,e2]
           ·cases h
          ·cases h
    ·cases h
   ·rename_i len e xs ys hd
    split at h
    ·rename_i hc
     split at h
     ·cases h
     ·rename_i ei hei
      cases hx with
      | agg _ vxs hsx hx =>
      cases hy with
      | agg _ vys hsy hy =>
       have hu:P.underlying t=some (.array len e):=by
        have:=(hT.ok t ti ht).1
        rw [hd] at this;exact this
       obtain ⟨_,info,hinfo,hsize,_⟩:=hT.ok e ei hei
       have hce:P.cellsOf e=ei.size:=by simp [Program.cellsOf,hinfo,hsize]
       rw [run_equalIn_array w d vxs vys hu hinfo,hce]
       cases d with
       | zero =>
        have hn0:n=0:=by omega
        subst hn0
        revert h b
        cases List.range len with
        | nil=>intro b h;injection h with h;subst h;simp [Op.eqItems]
        | cons f r =>
         intro b h
         simp only [wau] at h
         split at h
         ·split at h
          ·rename_i h1 _;simp [eqA] at h1
          ·cases h
         ·cases h
       | succ d =>
        have ih:=fun t b x y vx vy hx hy h=>zaD hT n d t b x y vx vy hx hy h (by omega)
        revert h b
        generalize List.range len=l
        induction l with
        | nil=>intro b h;injection h with h;subst h;simp [Op.eqItems]
        | cons f r ihr =>
         intro b h
         simp only [wau] at h
         split at h
         ·rename_i a c ha hcc
          split at h
          ·rename_i p q hp hq
           injection h with h;subst h
           obtain ⟨va,ra,vra⟩:=zX hT hei hsx hx ha
           obtain ⟨vc,rc,vrc⟩:=zX hT hei hsy hy hcc
           have e1:=ih e p a c va vc vra vrc hp
           have e2:=ihr q hq
           cases p
           ·simp [Op.eqItems,ra,rc,e1]
           ·simp [Op.eqItems,ra,rc,e1,e2]
          ·cases h
         ·cases h
    ·cases h
   ·cases h
theorem ga5 {d:TypeDesc} {t:TypeId} {x y:AV} {vx vy:Value} {b:Bool} (hr:HR E w h) (hd:P.underlying t=some d) (hx:VR E w x vx) (hy:VR E w y vy) (hn:yq d x=true) (hb:vt h d y=some b) :
  (Op.equal t vx vy).run P w=.ok b w∧(Op.equal t vy vx).run P w=.ok b w:=by
 have hu:=xa5 (w:=w) hd
 obtain ⟨d',hd'⟩:∃ d',Op.maxDepth=d' + 1:=⟨9999,rfl⟩
 have heq:∀ a b,Op.equal t a b=Op.equalIn (d' + 1) t a b:=fun a b=>by unfold Op.equal;rw [hd']
 have live:∀ c,(match h.blk? c with | some _=>some false | none=>none)=some b→b=false∧∃ k,h.blk? c=some k:=fun c hc=>by
  split at hc
  ·rename_i k hk;injection hc with hc;exact ⟨hc.symm,k,hk⟩
  ·cases hc
 have loc:∀ c k,h.blk? c=some k→∃ Ls,E.ρ c=some Ls:=fun c k hk=>by
  cases k with
  | rows rs g fz=>obtain ⟨Ls,h1,_⟩:=hr.rows c rs g fz hk;exact ⟨Ls,h1⟩
  | mapb es=>obtain ⟨Ls,h1,_⟩:=hr.maps c es hk;exact ⟨Ls,h1⟩
 cases d <;> cases x <;> simp only [yq,Bool.false_eq_true] at hn
 all_goals cases y <;> simp only [vt] at hb <;> first | (cases hb;done) | skip
 all_goals cases hx
 case pointer.nilp.nilp=>cases hy;injection hb with hb;subst hb;simp [heq,Op.equalIn,hu]
 case pointer.nilp.vp=>cases hy;injection hb with hb;subst hb;simp [heq,Op.equalIn,hu]
 case pointer.nilp.gp=>cases hy;injection hb with hb;subst hb;simp [heq,Op.equalIn,hu]
 case pointer.nilp.ptr =>
  obtain ⟨rfl,k,hk⟩:=live _ hb
  obtain ⟨Ls,h1⟩:=loc _ _ hk
  cases hy with
  | ptr _ _ _ a hv=>obtain ⟨L,_,_,_,rfl⟩:=hv Ls h1;simp [heq,Op.equalIn,hu]
 case slice.nils.nils=>cases hy;injection hb with hb;subst hb;simp [heq,Op.equalIn,hu]
 case slice.nils.vs=>cases hy;injection hb with hb;subst hb;simp [heq,Op.equalIn,hu]
 case slice.nils.ms =>
  obtain ⟨rfl,k,hk⟩:=live _ hb
  obtain ⟨Ls,h1⟩:=loc _ _ hk
  cases hy with
  | ms _ _ _ _ a l c hv=>obtain ⟨L,_,_,_,_,_,⟨_,_,rfl⟩,_⟩:=hv Ls h1;simp [heq,Op.equalIn,hu]
 case func.nilf.nilf=>cases hy;injection hb with hb;subst hb;simp [heq,Op.equalIn,hu]
 case func.nilf.fn=>cases hy;injection hb with hb;subst hb;simp [heq,Op.equalIn,hu]
 case map.nilm.nilm=>cases hy;injection hb with hb;subst hb;simp [heq,Op.equalIn,hu]
 case map.nilm.mp =>
  obtain ⟨rfl,k,hk⟩:=live _ hb
  obtain ⟨Ls,h1⟩:=loc _ _ hk
  cases hy with
  | mp _ r hv=>obtain ⟨L,_,rfl⟩:=hv Ls h1;simp [heq,Op.equalIn,hu]
end ops
end
end Go.Abs

namespace Go.Abs
noncomputable section
variable [Gl]
section ops
variable {P:Program} {T:Tab} {h:Heap} {E:Env} {w:World} {K:AV→Heap→Prop}
def qah (op:BinOp) (t:TypeId) (ox oy:Operand) (vx vy:Value):Sem Value:=do eqGuard op t ox oy vx vy;binOp op t vx vy
omit [Gl] in
theorem qae {op:BinOp} {t:TypeId} {ox oy:Operand} {vx vy:Value} (h1:(op == .eql || op == .neq)=false):(eqGuard op t ox oy vx vy).run P w=.ok () w:=by
 cases op <;> first | (simp at h1;done) | (simp [eqGuard])
omit [Gl] in
theorem yZ {op:BinOp} {t:TypeId} {ox oy:Operand} {vx vy:Value} (h1:vx≠.nilIface) (h2:∀ xs ys,vx=.agg xs→vy=.agg ys→P.eqGuardType P.depth t=false) :
  (eqGuard op t ox oy vx vy).run P w=.ok () w:=by
 cases op
 case eql =>
  simp [eqGuard]
  split
  ·exact absurd rfl h1
  ·rename_i xs ys
   simp [h2 xs ys rfl rfl]
  ·simp
 case neq =>
  simp [eqGuard]
  split
  ·exact absurd rfl h1
  ·rename_i xs ys
   simp [h2 xs ys rfl rfl]
  ·simp
 all_goals simp [eqGuard]
theorem VOK.bind_guard {op:BinOp} {t:TypeId} {ox oy:Operand} {vx vy:Value} (hg:(eqGuard op t ox oy vx vy).run P w=.ok () w) (hb:VOK P h E w (binOp op t vx vy) K):VOK P h E w (qah op t ox oy vx vy) K:=by
 obtain ⟨r,h',E',w',v,h1,rest⟩:=hb
 exact ⟨r,h',E',w',v,by simp [qah,hg,h1],rest⟩
theorem xbS {op:BinOp} {a b:List UInt8} {t:TypeId} {r:AV} (hr:HR E w h) (hx:yV op a b=some r) (hk:K r h):VOK P h E w (binOp op t (.string ⟨a.toArray⟩) (.string ⟨b.toArray⟩)) K:=by
 cases op <;> simp only [yV] at hx <;> first | (cases hx;done) | skip
 all_goals injection hx with hx;subst hx
 all_goals exact .bool hr (by simp [binOp,Op.stringOp,yaz]) hk
omit [Gl] in
theorem ucg (a b:List UInt8):(⟨a.toArray⟩:ByteArray) ++ ⟨b.toArray⟩=⟨(a ++ b).toArray⟩:=by
 apply ByteArray.ext
 rw [ByteArray.data_append]
 simp
omit [Gl] in
theorem yau {t:TypeId} {vx vy:Value} {b:Bool} (hs:(∀ k a k' c,vx=.int k a→vy=.int k' c→False)∧(∀ k a k' c,vx=.float k a→vy=.float k' c→False)∧(∀ k a c k' d e,vx=.complex k a c→vy=.complex k' d e→False)∧(∀ a c,vx=.string a→vy=.string c→False))
  (he:(Op.equal t vx vy).run P w=.ok b w):(binOp .eql t vx vy).run P w=.ok (.bool b) w∧(binOp .neq t vx vy).run P w=.ok (.bool !b) w:=by
 obtain ⟨h1,h2,h3,h4⟩:=hs
 constructor
 ·unfold binOp
  split <;> first | (rename_i h;cases h;done) | skip
  all_goals first
   | (exact (h1 _ _ _ _ rfl rfl).elim)
   | (exact (h2 _ _ _ _ rfl rfl).elim)
   | (exact (h3 _ _ _ _ _ _ rfl rfl).elim)
   | (exact (h4 _ _ rfl rfl).elim)
   | (simp [he];done)
   | simp_all
 ·unfold binOp
  split <;> first | (rename_i h;cases h;done) | skip
  all_goals first
   | (exact (h1 _ _ _ _ rfl rfl).elim)
   | (exact (h2 _ _ _ _ rfl rfl).elim)
   | (exact (h3 _ _ _ _ _ _ rfl rfl).elim)
   | (exact (h4 _ _ rfl rfl).elim)
   | (simp [he];done)
   | simp_all
theorem x5 {t:TypeId} {ti:TI} {x y:AV} {vx vy:Value} {b:Bool} (hT:wc P T) (hr:HR E w h) (ht:T t=some ti) (hx:VR E w x vx) (hy:VR E w y vy)
  (hnot:(∀ k a k' c,x=.int k a→y=.int k' c→False)∧∀ a c,x=.str a→y=.str c→False)
  (hb:(yq ti.desc x=true∧vt h ti.desc y=some b)∨(yq ti.desc y=true∧vt h ti.desc x=some b)∨eqA T 100 t x y=some b) :
  (∀ op ox oy,(eqGuard op t ox oy vx vy).run P w=.ok () w)∧(binOp .eql t vx vy).run P w=.ok (.bool b) w∧(binOp .neq t vx vy).run P w=.ok (.bool !b) w:=by
 have hd:=(hT.ok t ti ht).1
 rcases hb with ⟨h1,h2⟩ | ⟨h1,h2⟩ | h1
 ·have hq:=(ga5 hr hd hx hy h1 h2).1
  have hv:vx=.slice none 0 0∨vx=.pointer none∨vx=.nilFunc∨vx=.map none:=by
   revert h1
   cases ti.desc <;> cases x <;> simp only [yq,Bool.false_eq_true,false_implies] <;> intro _ <;> cases hx <;> simp
  refine ⟨fun op ox oy=>yZ (by rcases hv with rfl | rfl | rfl | rfl <;> simp) (by rcases hv with rfl | rfl | rfl | rfl <;> simp),yau ?_ hq⟩
  rcases hv with rfl | rfl | rfl | rfl <;> simp
 ·have hq:=(ga5 hr hd hy hx h1 h2).2
  have hv:vy=.slice none 0 0∨vy=.pointer none∨vy=.nilFunc∨vy=.map none:=by
   revert h1
   cases ti.desc <;> cases y <;> simp only [yq,Bool.false_eq_true,false_implies] <;> intro _ <;> cases hy <;> simp
  have hvx:vx≠.nilIface:=by
   rintro rfl
   cases hx
   ·revert h2;cases ti.desc <;> simp [vt]
   ·revert h2;cases ti.desc <;> simp [vt]
  refine ⟨fun op ox oy=>yZ hvx (by rcases hv with rfl | rfl | rfl | rfl <;> simp),yau ?_ hq⟩
  rcases hv with rfl | rfl | rfl | rfl <;> simp
 ·have hq:(Op.equal t vx vy).run P w=.ok b w:=zaD hT 100 9999 t b x y vx vy hx hy h1 (by omega)
  rw [show (100:Nat)=99 + 1 from rfl] at h1
  generalize (99:Nat)=m99 at h1
  have hkind:(∃ a c,vx=.bool a∧vy=.bool c)∨(∃ a c,vx=.agg a∧vy=.agg c∧ti.cmp=true):=by
   simp only [eqA,ht] at h1
   split at h1
   ·cases hx;cases hy;exact .inl ⟨_,_,rfl,rfl⟩
   ·exact (hnot.1 _ _ _ _ rfl rfl).elim
   ·exact (hnot.2 _ _ rfl rfl).elim
   ·split at h1
    ·rename_i hc;cases hx;cases hy;exact .inr ⟨_,_,rfl,rfl,hc⟩
    ·cases h1
   ·split at h1
    ·rename_i hc;cases hx;cases hy;exact .inr ⟨_,_,rfl,rfl,hc⟩
    ·cases h1
   ·cases h1
  rcases hkind with ⟨a,c,rfl,rfl⟩ | ⟨a,c,rfl,rfl,hc⟩
  ·exact ⟨fun op ox oy=>yZ (by simp) (by simp),yau (by simp) hq⟩
  ·exact ⟨fun op ox oy=>yZ (by simp) (fun _ _ _ _=>(hT.cmp t ti ht hc).2),yau (by simp) hq⟩
theorem zbV (hT:wc P T) (hr:HR E w h) {op:BinOp} {t:TypeId} {ox oy:Operand} {x y:AV} {vx vy:Value} (hx:VR E w x vx) (hy:VR E w y vy) (hb:gj T h op t x y (fun r=>K r h)) :
  VOK P h E w (qah op t ox oy vx vy) K:=by
 unfold gj at hb
 split at hb
 ·obtain ⟨h0,hk⟩:=hb
  cases hx;cases hy
  refine .bind_guard (qae rfl) (.int hr ?_ hk)
  simp [binOp,Op.shift,Int.not_lt.2 h0]
 ·obtain ⟨h0,hk⟩:=hb
  cases hx;cases hy
  refine .bind_guard (qae rfl) (.int hr ?_ hk)
  simp [binOp,Op.shift,Int.not_lt.2 h0]
 ·split at hb
  ·rename_i hkk
   obtain ⟨h0,hk⟩:=hb
   cases hx;cases hy;subst hkk
   refine .bind_guard (qae rfl) (.int hr ?_ hk)
   simp [binOp,Op.intDiv,h0]
  ·exact hb.elim
 ·split at hb
  ·rename_i hkk
   obtain ⟨h0,hk⟩:=hb
   cases hx;cases hy;subst hkk
   refine .bind_guard (qae rfl) (.int hr ?_ hk)
   simp [binOp,Op.intDiv,h0]
  ·exact hb.elim
 ·split at hb
  ·rename_i hkk
   split at hb
   ·rename_i r hi
    cases hx;cases hy;subst hkk
    exact .bind_guard (yZ (by simp) (by simp)) (vbT hr hi hb)
   ·exact hb.elim
  ·exact hb.elim
 ·obtain ⟨h0,hk⟩:=hb
  cases hx;cases hy
  rename_i a b
  refine .bind_guard (qae rfl) (.val hr (v:=.string ⟨(a ++ b).toArray⟩) ?_ (.str _) (.str _) hk)
  have hm:IntKind.i64.max=9223372036854775807:=by decide
  have:¬ (((a.length + b.length:Nat):Int) > IntKind.i64.max):=by rw [hm];omega
  simp only [binOp,Op.stringOp,wV,this,if_false,ucg]
  rfl
 ·split at hb
  ·rename_i r hi
   cases hx;cases hy
   exact .bind_guard (yZ (by simp) (by simp)) (xbS hr hi hb)
  ·exact hb.elim
 ·rename_i n1 n2
  split at hb
  ·exact hb.elim
  ·rename_i ti ht
   have hnot:(∀ k a k' c,x=.int k a→y=.int k' c→False)∧∀ a c,x=.str a→y=.str c→False:=⟨fun k a k' c e1 e2=>by first | exact n1 k a k' c e1 e2 | exact n2 k a k' c e1 e2,fun a c e1 e2=>by first | exact n1 a c e1 e2 | exact n2 a c e1 e2⟩
   split at hb
   ·rename_i hn
    split at hb
    ·rename_i b hnb
     obtain ⟨g,r1,_⟩:=x5 hT hr ht hx hy hnot (.inl ⟨hn,hnb⟩)
     exact .bind_guard (g _ _ _) (.bool hr r1 hb)
    ·exact hb.elim
   ·split at hb
    ·rename_i hn
     split at hb
     ·rename_i b hnb
      obtain ⟨g,r1,_⟩:=x5 hT hr ht hx hy hnot (.inr (.inl ⟨hn,hnb⟩))
      exact .bind_guard (g _ _ _) (.bool hr r1 hb)
     ·exact hb.elim
    ·split at hb
     ·rename_i b hnb
      obtain ⟨g,r1,_⟩:=x5 hT hr ht hx hy hnot (.inr (.inr hnb))
      exact .bind_guard (g _ _ _) (.bool hr r1 hb)
     ·exact hb.elim
 ·rename_i n1 n2
  split at hb
  ·exact hb.elim
  ·rename_i ti ht
   have hnot:(∀ k a k' c,x=.int k a→y=.int k' c→False)∧∀ a c,x=.str a→y=.str c→False:=⟨fun k a k' c e1 e2=>by first | exact n1 k a k' c e1 e2 | exact n2 k a k' c e1 e2,fun a c e1 e2=>by first | exact n1 a c e1 e2 | exact n2 a c e1 e2⟩
   split at hb
   ·rename_i hn
    split at hb
    ·rename_i b hnb
     obtain ⟨g,_,r1⟩:=x5 hT hr ht hx hy hnot (.inl ⟨hn,hnb⟩)
     exact .bind_guard (g _ _ _) (.bool hr r1 hb)
    ·exact hb.elim
   ·split at hb
    ·rename_i hn
     split at hb
     ·rename_i b hnb
      obtain ⟨g,_,r1⟩:=x5 hT hr ht hx hy hnot (.inr (.inl ⟨hn,hnb⟩))
      exact .bind_guard (g _ _ _) (.bool hr r1 hb)
     ·exact hb.elim
    ·split at hb
     ·rename_i b hnb
      obtain ⟨g,_,r1⟩:=x5 hT hr ht hx hy hnot (.inr (.inr hnb))
      exact .bind_guard (g _ _ _) (.bool hr r1 hb)
     ·exact hb.elim
 ·exact hb.elim
theorem ubU (hT:wc P T) (hr:HR E w h) {src dst:TypeId} {x:AV} {v:Value} (hx:VR E w x v) (hb:jJ T h src dst x K):VOK P h E w (convert src dst v) K:=by
 unfold jJ at hb
 split at hb
 ·rename_i si di hs hd
  split at hb
  ·rename_i k k' n hdd
   cases hx
   refine .int hr ?_ hb
   simp only [convert,Sem.run_bind,jf hT hs,jf hT hd,Result.andThen_ok,hdd]
   cases si.desc <;> simp [Conv.intToInt]
  ·rename_i s hdd
   cases hx
   refine .val hr (v:=.string ⟨s.toArray⟩) ?_ (.str _) (.str _) hb
   simp only [convert,Sem.run_bind,jf hT hs,jf hT hd,Result.andThen_ok,hdd]
   cases si.desc <;> simp
  ·exact hb.elim
 ·exact hb.elim
end ops
end
end Go.Abs

namespace Go.Abs
noncomputable section
variable [Gl]
section ops
variable {P:Program} {T:Tab} {h:Heap} {E:Env} {w:World} {K:AV→Heap→Prop}
theorem j6 {x:AV} {v:Value} (hx:VR E w x v) (ho:(xd x).all okc=true):v.cells.size=(xd x).length ∧
  ∀ (i:Nat) (hi:i < (xd x).length) (hj:i < v.cells.size),VR E w (xd x)[i] v.cells[i]∧one v.cells[i]=true:=by
 have single:∀ {x:AV} {v:Value},VR E w x v→okc x=true→xd x=[x]∧v.cells = #[v]:=by
  intro x v hx ho
  cases hx <;> first | (exact ⟨rfl,rfl⟩) | (simp [okc] at ho)
 cases x
 case agg cs =>
  cases hx with
  | agg _ vs hs hv =>
   refine ⟨hs.symm,fun i hi hj=>⟨hv i hi hj,yaI (hv i hi hj) ?_⟩⟩
   have:=List.all_eq_true.1 ho cs[i] (List.getElem_mem hi)
   exact this
 all_goals
  first
   | (obtain ⟨e1,e2⟩:=single hx (by simpa [xd] using ho)
      rw [e1,e2]
      refine ⟨rfl,fun i hi hj => ?_⟩
      have hi0:i=0:=by simpa using hi
      subst hi0
      exact ⟨hx,yaI hx (by simpa [xd] using ho)⟩)
   | (simp [xd,okc] at ho)
theorem one_mem {x:AV} {v:Value} (hx:VR E w x v) (ho:(xd x).all okc=true):∀ c∈v.cells.toList,one c=true:=by
 intro c hc
 obtain ⟨i,hi,rfl⟩:=List.getElem_of_mem hc
 have hi':i < v.cells.size:=by simpa using hi
 obtain ⟨e,h⟩:=j6 hx ho
 rw [Array.getElem_toList]
 exact (h i (e ▸ hi') hi').2
omit [Gl] in
theorem qag {n m:Nat} {x:AV} (hl:Lt n m x):∀ y∈xd x,Lt n m y:=by
 intro y hy
 cases hl with
 | agg cs hl=>obtain ⟨i,hi,rfl⟩:=List.getElem_of_mem hy;exact hl i hi
 | _ =>
  obtain rfl:y=_:=by simpa [xd] using hy
  constructor <;> assumption
theorem wbS (hT:wc P T) (hr:HR E w h) {t:TypeId} {x v:AV} {vx vv:Value} (hx:VR E w x vx) (hv:VR E w v vv) (hlv:Lt h.blks.length h.loops.length v) {h':Heap} (hs:xV T h t x v=some h') :
  ∃ E' w',(Instr.storeAt t vx vv).run P w=.ok () w'∧HR E' w' h'∧Ext h.blks.length h.loops.length E w E' w'∧h'.blks.length=h.blks.length∧h'.loops.length=h.loops.length:=by
 unfold xV at hs
 split at hs
 ·cases hs
 ·rename_i ti ht
  split at hs
  ·rename_i b i j
   split at hs
   ·rename_i rs hb
    split at hs
    ·rename_i row hrow
     split at hs
     ·rename_i hc
      simp only [Bool.and_eq_true,beq_iff_eq,Nat.ble_eq] at hc
      obtain ⟨⟨ho,hlen⟩,hfit⟩:=hc
      injection hs with hs;subst hs
      obtain ⟨hcs,hcv⟩:=j6 hv ho
      obtain ⟨Ls,h1,h2⟩:=hr.rows b rs false false hb
      obtain ⟨L,rfl⟩:=h2.one rfl
      have hla:=h2.all L (by simp)
      obtain ⟨arr,el,a1,a2,a3⟩:=hla.lies
      have hLlen:L.len=rs.length:=by
       obtain ⟨L',hL',e⟩:=h2.now
       obtain rfl:L'=L:=by simpa using hL'
       exact e
      obtain ⟨hi,rfl⟩:=List.getElem?_eq_some_iff.1 hrow
      have hsz:rs[i].length=L.sz:=hla.sz i hi
      cases hx with
      | ptr _ _ _ a hx =>
       obtain ⟨L',hL',_,_,rfl⟩:=hx [L] h1
       obtain rfl:L'=L:=by simpa using hL'
       have hB:L'.blk < w.heap.size:=xi hr (.inl ⟨b,[L'],L',h1,by simp,rfl⟩)
       have hmul:(i + 1) * L'.sz≤rs.length * L'.sz:=Nat.mul_le_mul_right _ hi
       have hend:L'.off + i * L'.sz + L'.sz≤arr.size:=by
        have:=hla.fits
        rw [hLlen] at this
        rw [Nat.add_mul] at hmul
        omega
       obtain ⟨w',r1,r2,r3,r4,r5⟩:=qal (P:=P) (B:=L'.blk) (off:=L'.off + i * L'.sz + j) (el:=el) vv.cells.toList 0 arr w a1 (one_mem hv ho) (by simp [hcs,hlen];omega)
       rw [Nat.add_zero] at r2
       have hheap:∀ B,B≠L'.blk→w'.heap[B]? = w.heap[B]? := fun B hB=>by rw [r2,Array.getElem?_setIfInBounds_ne (Ne.symm hB)]
       have hat:w'.heap[L'.blk]? = some (.cells (qp arr (L'.off + i * L'.sz + j) vv.cells.toList) el (0,0)):=by rw [r2,Array.getElem?_setIfInBounds_self_of_lt hB]
       have hsize:w'.heap.size=w.heap.size:=by rw [r2];simp
       have hch:=yaO (E:=E) (w:=w) (w':=w') hr (b:=b) (rs:=rs) (rs':=rs.set i (rs[i].take j ++ xd v ++ rs[i].drop (j + ti.size))) (g:=false) (g':=false) (Ls:=[L']) (Ls':=[L'])
        hb h1 r3 r4 r5 (by omega) (fun B _ hne=>hheap B (fun e=>hne L' (by simp) e.symm))
        (fun L2 hL2=>by
         obtain rfl:L2=L':=(by simpa using hL2)
         exact ⟨by omega,.inl ⟨L2,by simp,rfl⟩⟩)
        (fun L2 hL2=>⟨L2,hL2,rfl,rfl,rfl,rfl,Nat.le_refl _⟩)
        (fun keeps=>by
         refine ⟨fun _=>⟨L',rfl⟩,⟨L',by simp,by simpa using hLlen⟩,fun L2 hL2 => ?_,by simp⟩
         obtain rfl:L2=L':=by simpa using hL2
         have hnl:(rs[i].take j ++ xd v ++ rs[i].drop (j + ti.size)).length=L2.sz:=by
          simp only [List.length_append,List.length_take,List.length_drop,hlen];omega
         refine ⟨⟨_,el,hat,by rw [vV];exact a2,fun i' hi' hl' j' hj' => ?_⟩,by simpa using hla.len,hla.fits,fun i' hi' => ?_,fun _=>.inl (hla.own rfl),fun h=>by cases h⟩
         ·have hi2:i' < rs.length:=by simpa using hi'
          have hvl:vv.cells.toList.length=ti.size:=by simp [hcs,hlen]
          rw [qaa _ _ _ _ (by rw [hvl];omega),hvl]
          by_cases hii:i'=i
          ·subst hii
           have e0:(rs.set i' (rs[i'].take j ++ xd v ++ rs[i'].drop (j + ti.size)))[i']=rs[i'].take j ++ xd v ++ rs[i'].drop (j + ti.size):=by simp
           have hj2:j' < L2.sz:=by rw [← hnl,← e0];exact hj'
           by_cases hin:j≤j'∧j' < j + ti.size
           ·rw [if_pos (by omega)]
            have hk:j' - j < (xd v).length:=by omega
            have hk':j' - j < vv.cells.size:=by omega
            obtain ⟨c1,c2⟩:=hcv (j' - j) hk hk'
            refine ⟨vv.cells[j' - j],?_,?_,c2⟩
            ·rw [show L2.off + i' * L2.sz + j' - (L2.off + i' * L2.sz + j)=j' - j from by omega]
             simp [hk']
            ·have e:(rs.set i' (rs[i'].take j ++ xd v ++ rs[i'].drop (j + ti.size)))[i'][j']=(xd v)[j' - j]:=by
              simp only [e0]
              have hmin:min j rs[i'].length=j:=by omega
              rw [List.getElem_append_left (by simp only [List.length_append,List.length_take];omega),List.getElem_append_right (by simp only [List.length_take];omega)]
              simp only [List.length_take,hmin]
             rw [e]
             exact c1.keep keeps (qag hlv _ (List.getElem_mem hk))
           ·rw [if_neg (by omega)]
            obtain ⟨u,u1,u2,u3⟩:=a3 i' hi2 (by omega) j' (by omega)
            refine ⟨u,u1,?_,u3⟩
            have e:(rs.set i' (rs[i'].take j ++ xd v ++ rs[i'].drop (j + ti.size)))[i'][j']=rs[i'][j']:=by
             simp only [e0]
             by_cases hlo:j' < j
             ·rw [List.getElem_append_left (by simp only [List.length_append,List.length_take];omega),List.getElem_append_left (by simp only [List.length_take];omega)]
              simp
             ·rw [List.getElem_append_right (by simp only [List.length_append,List.length_take];omega)]
              simp only [List.getElem_drop]
              congr 1
              simp only [List.length_append,List.length_take,hlen];omega
            rw [e]
            exact u2.keep keeps (hr.lt.blks b _ hb _ (List.getElem_mem hi2) _ (List.getElem_mem _))
          ·have e0:(rs.set i (rs[i].take j ++ xd v ++ rs[i].drop (j + ti.size)))[i']=rs[i']:=by simp [Ne.symm hii]
           have hj2:j' < rs[i'].length:=by rw [← e0];exact hj'
           have hs2:=hla.sz i' hi2
           have hout:¬ (L2.off + i * L2.sz + j≤L2.off + i' * L2.sz + j'∧L2.off + i' * L2.sz + j' < L2.off + i * L2.sz + j + ti.size):=by
            rcases Nat.lt_or_gt_of_ne hii with hlt | hgt
            ·have:=Nat.mul_le_mul_right L2.sz (show i' + 1≤i from hlt)
             rw [Nat.add_mul] at this
             omega
            ·have:=Nat.mul_le_mul_right L2.sz (show i + 1≤i' from hgt)
             rw [Nat.add_mul] at this
             omega
           rw [if_neg hout]
           obtain ⟨u,u1,u2,u3⟩:=a3 i' hi2 (by omega) j' hj2
           refine ⟨u,u1,?_,u3⟩
           have e:(rs.set i (rs[i].take j ++ xd v ++ rs[i].drop (j + ti.size)))[i'][j']=rs[i'][j']:=by simp only [e0]
           rw [e]
           exact u2.keep keeps (hr.lt.blks b _ hb _ (List.getElem_mem hi2) _ (List.getElem_mem _))
         ·have hi2:i' < rs.length:=by simpa using hi'
          rw [List.getElem_set]
          split
          ·exact hnl
          ·exact hla.sz i' hi2)
        (fun r hr' y hy=>by
         rcases List.mem_or_eq_of_mem_set hr' with hm | rfl
         ·exact hr.lt.blks b _ hb r hm y hy
         ·simp only [List.mem_append] at hy
          rcases hy with (hy | hy) | hy
          ·exact hr.lt.blks b _ hb _ (List.getElem_mem hi) y (List.mem_of_mem_take hy)
          ·exact qag hlv y hy
          ·exact hr.lt.blks b _ hb _ (List.getElem_mem hi) y (List.mem_of_mem_drop hy))
       refine ⟨_,w',?_,hch.1,hch.2,by simp [Heap.put],rfl⟩
       simp only [Instr.storeAt,Instr.sureAddr,Sem.run_bind,Sem.run_pure,Result.andThen_ok,storeVar,zq hT ht,hcs,hlen,ne_eq,not_true,if_false]
       exact r1
     ·cases hs
    ·cases hs
   ·cases hs
  ·cases hs
theorem zbe (hr:HR E w h) {e:TypeId} {cs:List AV} {arr:Array Value} (hs:arr.size=cs.length) (hpos:0 < cs.length)
  (hv:∀ (i:Nat) (hi:i < cs.length) (hj:i < arr.size),VR E w cs[i] arr[i]∧one arr[i]=true) (hl:∀ x∈cs,Lt h.blks.length h.loops.length x)
  (hk:K (.ptr h.blks.length 0 0) (h.push (.rows [cs] false false))) {s:Sem Value} (hrun:s.run P w=.ok (.pointer (some ⟨w.heap.size,0,none⟩)) { w with heap:=w.heap.push (.cells arr e) }):VOK P h E w s K:=by
 obtain ⟨p1,p2⟩:=xbl (E:=E) (w:=w) (w':={ w with heap:=w.heap.push (.cells arr e) }) hr (arr:=arr) (el:=e) (rs:=[cs]) (g:=false) (sz:=cs.length) rfl rfl rfl rfl
  (fun i hi=>by
   have:i=0:=by simpa using hi
   subst this;rfl) (by simp;omega)
  (fun i hi j hj=>by
   have:i=0:=by simpa using hi
   subst this
   have hj':j < cs.length:=hj
   obtain ⟨a,b⟩:=hv j hj' (by omega)
   exact ⟨arr[j]'(by omega),by simp [show j < arr.size from by omega],a,b⟩)
  (fun r hr' x hx=>by
   obtain rfl:r=cs:=by simpa using hr'
   exact hl x hx)
 refine ⟨_,_,_,_,_,hrun,hk,.ptr _ _ _ _ fun Ls hLs => ?_,p1,.ptr _ _ _ (by simp [Heap.push]),by simp [Heap.push],Nat.le_refl _,p2⟩
 have e0:(E.with h.blks.length [⟨w.heap.size,0,cs.length,arr.size,1⟩]).ρ h.blks.length=some [⟨w.heap.size,0,cs.length,arr.size,1⟩]:=by
  show (if _ then _ else _)=_;rw [if_pos rfl]
 have e1:some Ls=some [⟨w.heap.size,0,cs.length,arr.size,1⟩]:=hLs.symm.trans e0
 injection e1 with e1;subst e1
 exact ⟨⟨w.heap.size,0,cs.length,arr.size,1⟩,List.mem_singleton.2 rfl,Nat.zero_lt_one,hpos,by simp⟩
theorem gbU (hr:HR E w h) {e:TypeId} {x:AV} {v:Value} (hv:VR E w x v) (hl:Lt h.blks.length h.loops.length x) (hb:vah T h e x K):VOK P h E w (Instr.box e v) K:=by
 unfold vah at hb
 split at hb
 ·exact hb.elim
 ·rename_i ei hei
  obtain ⟨⟨h1,h2,h3⟩,hk⟩:=hb
  obtain ⟨hs,hc⟩:=j6 hv h3
  exact zbe hr (e:=e) (arr:=v.cells) hs (by omega) hc (qag hl) hk (by simp [Instr.box,newVar,newRow])
theorem yaj {z:Value} {l:List AV} (h1:z.cells.toList.map ofV=l):∀ (i:Nat) (hi:i < l.length) (hj:i < z.cells.size),VR E w l[i] z.cells[i]:=by
 intro i hi hj
 subst h1
 simp only [List.getElem_map,Array.getElem_toList]
 exact gao _ _ _
theorem xaj {n m:Nat} {z:Value} {l:List AV} (h1:z.cells.toList.map ofV=l):∀ x∈l,Lt n m x:=by
 subst h1
 intro x hx
 obtain ⟨v,_,rfl⟩:=List.mem_map.1 hx
 exact xaI _ _ _
theorem wbV (hT:wc P T) (hr:HR E w h) {e:TypeId} (hb:xai T h e K):VOK P h E w (Instr.alloc e true (.tuple #[])) K:=by
 unfold xai at hb
 split at hb
 ·exact hb.elim
 ·rename_i ei hei
  obtain ⟨⟨h1,h2⟩,hk⟩:=hb
  obtain ⟨z,z1,z2,z3,z4⟩:=qaC (w:=w) hT hei
  have hlen:ei.zero.length=z.cells.size:=by rw [← z2];simp
  exact zbe hr (e:=e) (arr:=z.cells) hlen.symm (by omega) (fun i hi hj=>⟨yaj z2 i hi hj,z4 _ (by simp)⟩) (xaj z2) hk (by simp [Instr.alloc,newVar,newRow,z1])
end ops
end
end Go.Abs
