/-
  Steps to a law of this program: SBase.
  Conditions: none.
-/
import Derived.Test.YtpdnijifmebnbaaGreatDoorB20
import Derived.Test.YtpdnijifmebnbaaGreatDoorB18
import Derived.Test.YtpdnijifmebnbaaGreatDoorB12
import Derived.Test.YtpdnijifmebnbaaGreatDoorB14
set_option linter.unusedVariables false
set_option linter.unusedSimpArgs false
set_option linter.unusedSectionVars false
namespace Go.Abs
noncomputable section
open Go.Proofs
instance seatGl:Gl:=⟨fun g=>match Nat.beq g 0 with
 | true=>some (Lib.pow10Tab.map (AV.int .u64))
 | false=>none⟩
instance seatBare:Bare:={ ext:=fun f=>match Nat.beq f 187 with | true=>some gbk | false=>none }
theorem ga4:jv Tryz.prog where
 ok f g args r hf hr:=by
  have hf':f=187:=by
   unfold Bare.ext seatBare at hf
   simp only at hf
   split at hf
   ·rename_i h;exact Nat.eq_of_beq_eq_true h
   ·cases hf
  subst hf'
  injection hf with hf;subst hf
  unfold gbk at hr
  split at hr
  ·rename_i s c
   split at hr
   ·rename_i hc
    have hc':c≤255:=Nat.le_of_ble_eq_true hc
    injection hr with hr;subst hr
    refine ⟨.int _ _,fun E w vs ht => ?_⟩
    obtain ⟨v1,r1,rfl,h1,ht⟩:=xU ht
    obtain ⟨v2,r2,rfl,h2,ht⟩:=xU ht
    obtain rfl:=gaj ht
    cases h1;cases h2
    refine ⟨.int .i64 (gY c s 0),?_,.int ..⟩
    rw [run_callFunc_indexByte Tryz.func187 (by decide +kernel) (by decide +kernel) (by rfl) (by rfl)]
    show ((Extern.BytealgIndexByte.indexByte #[.string ⟨s.toArray⟩,.int .u8 (Int.ofNat c)]).run Tryz.prog w).andThen _=_
    rw [run_indexByte_string,yb3 (by omega)]
    rfl
   ·cases hr
  ·cases hr
theorem jbj (args:List AV) (r:AV) (h:xae args=some r):zb Tryz.prog 75 args r:=by
 unfold xae at h
 split at h
 ·rename_i n
  split at h
  ·rename_i hb
   obtain ⟨e,h0,h1⟩:=jb1 hb
   injection h with h;subst h
   refine zan ⟨Tryz.f75,Tryz.func75,by decide +kernel,by decide +kernel⟩ (.str _) fun F w vs hg ht=>⟨.string ⟨(wae n).toArray⟩,fun w'=>.str _,?_⟩
   obtain ⟨v1,r1,rfl,k1,ht⟩:=xU ht
   obtain rfl:=gaj ht
   cases k1
   rw [e]
   refine (Tryz.strconv_Itoa n h0 h1 w (hg.tab (b:=0) (by decide +kernel) rfl)).mono ?_
   rintro e w' ⟨rfl,kk,os,rfl⟩
   exact ⟨rfl,Lib.below_grow _ _ (Nat.le_refl _) kk os⟩
  ·cases h
 ·cases h
theorem gaZ (l:List Nat) (hx:∀ x∈l,x < 1000000000):∀ (l':List Nat) (k:Nat) (acc:List UInt8),l.drop k=l' →
  gT l' acc=uk l.length (fun i=>l.getD i 0) l'.length k ++ acc
 | [],k,acc,_=>rfl
 | [x],k,acc,h=>by
  have hlt:k < l.length:=by
   rcases Nat.lt_or_ge k l.length with hh | hh
   ·exact hh
   ·rw [List.drop_eq_nil_of_le hh] at h;cases h
  have hl:k + 1=l.length:=by have:=congrArg List.length h;simp at this;omega
  have hxk:l.getD k 0=x:=by
   rw [List.drop_eq_getElem_cons hlt] at h
   injection h with h1 _
   simp [hlt,h1]
  have hx':x < 1000000000:=by
   rw [← hxk];simp [hlt];exact hx _ (List.getElem_mem hlt)
  show qr 20 x acc=uk l.length _ 0 (k + 1) ++ xP l.length _ k ++ acc
  rw [qaR x acc hx']
  simp only [uk,xP,hxk,show ¬ k + 1 < l.length by omega,if_false,List.nil_append]
 | x :: y :: r,k,acc,h=>by
  have hlt:k < l.length:=by
   rcases Nat.lt_or_ge k l.length with hh | hh
   ·exact hh
   ·rw [List.drop_eq_nil_of_le hh] at h;cases h
  have hl:k + 1 < l.length:=by have:=congrArg List.length h;simp at this;omega
  have hd:l[k]=x∧l.drop (k + 1)=y :: r:=by
   rw [List.drop_eq_getElem_cons hlt] at h
   injection h with h1 h2;exact ⟨h1,h2⟩
  have hxk:l.getD k 0=x:=by simp [hlt,hd.1]
  have hx':x < 1000000000:=hd.1 ▸ hx _ (List.getElem_mem hlt)
  show gT (y :: r) (jan x acc)=uk l.length _ (y :: r).length (k + 1) ++ xP l.length _ k ++ acc
  rw [gaZ l hx (y :: r) (k + 1) (jan x acc) hd.2,List.append_assoc]
  congr 1
  simp only [jan,xP,hxk,hl,if_true]
  rw [qaR x acc hx',qaR x [] hx',List.append_nil,List.append_assoc]
theorem ubD (args:List AV) (r:AV) (h:xaa args=some r):zb Tryz.prog 131 args r:=by
 have ok:uT Tryz.prog 131:=⟨Tryz.f131,Tryz.func131,by decide +kernel,by decide +kernel⟩
 have one:∀ {E:Env} {w:World} {x y:AV} {vs:Array Value},TR E w [.agg [x,y]] vs→∃ v1 v2,vs = #[.agg #[v1,v2]]∧VR E w x v1∧VR E w y v2:=by
  intro E w x y vs ht
  obtain ⟨v1,r1,rfl,k1,ht⟩:=xU ht
  obtain rfl:=gaj ht
  cases k1 with
  | agg _ vs hs hv =>
   obtain ⟨v1,r1,rfl,k1,ht⟩:=xU (⟨hs,hv⟩:TR E w [x,y] vs)
   obtain ⟨v2,r2,rfl,k2,ht⟩:=xU ht
   obtain rfl:=gaj ht
   exact ⟨v1,v2,by simp,k1,k2⟩
 unfold xaa at h
 split at h
 ·injection h with h;subst h
  refine zan ok (.str _) fun F w vs hg ht=>⟨.string ⟨#[48]⟩,fun w'=>.str [48],?_⟩
  obtain ⟨v1,v2,rfl,k1,k2⟩:=one ht
  cases k1;cases k2
  exact wa1 _ none 0 w
 ·injection h with h;subst h
  refine zan ok (.str _) fun F w vs hg ht=>⟨.string ⟨#[48]⟩,fun w'=>.str [48],?_⟩
  obtain ⟨v1,v2,rfl,k1,k2⟩:=one ht
  cases k1;cases k2
  exact wa1 _ _ _ w
 ·rename_i neg es capo hne
  split at h
  ·rename_i l hlen hl
   have hlen':=Nat.le_of_ble_eq_true hlen
   obtain ⟨hs,hlim⟩:=gbg _ _ hl
   injection h with h;subst h
   have hpos:0 < es.length:=by
    cases es with
    | nil=>exact (hne rfl).elim
    | cons _ _=>simp
   have hx:∀ x∈l,x < 1000000000:=fun x hx=>by
    obtain ⟨i,hi,rfl⟩:=List.getElem_of_mem hx
    exact (hlim i (by omega) hi).2
   have et:gT l []=uk l.length (fun i=>l.getD i 0) l.length 0:=by rw [gaZ l hx l 0 [] rfl,List.append_nil]
   refine zan ok (.str _) fun F w vs hg ht=>⟨_,fun w'=>.str _,?_⟩
   obtain ⟨v1,v2,rfl,k1,k2⟩:=one ht
   cases k1
   cases k2 with
   | vs _ _ B off cap sz vals a1 a2 a3 a4 a5 =>
    have cell:∀ i,i < es.length→w.cell? ⟨B,off + i,none⟩=some (.int .u32 ((l.getD i 0:Nat):Int)):=fun i hi=>by
     have e1:=(hlim i hi (by omega)).1
     have l1:es[i].length=1:=by rw [e1];rfl
     have s1:sz=1:=(a3 i hi).symm.trans l1
     obtain ⟨_,c1⟩:=a4 i hi 0 (by omega)
     have c2:=a5 i hi 0 (by omega)
     have e2:es[i][0]'(by omega)=.int .u32 (l[i]'(by omega):Int):=by simp [e1]
     rw [e2] at c2
     rw [s1,Nat.mul_one,Nat.add_zero] at c1
     rw [c1]
     generalize vals i 0=v at c2
     cases c2
     simp [hs,hi]
    have hB:B < w.heap.size:=by
     have:=cell 0 hpos
     rcases Nat.lt_or_ge B w.heap.size with hh | hh
     ·exact hh
     ·simp [World.cell?,Array.getElem?_eq_none hh] at this
    have htab:Lib.TabIs Tryz.prog w "internal/strconv.uint64pow10" .u64 Lib.pow10Tab:=hg.tab (b:=0) (by decide +kernel) rfl
    have hxs:∀ i,i < es.length→l.getD i 0 < 1000000000:=fun i hi=>by
     have hi':i < l.length:=by omega
     simp [hi'];exact hx _ (List.getElem_mem hi')
    cases neg with
    | false =>
     have:=jbD B off es.length cap (fun i=>l.getD i 0) w hpos (by omega) hB hxs cell htab
     simpa only [yL,et,hs,Bool.false_eq_true,if_false,List.nil_append] using this
    | true =>
     have:=gbD B off es.length cap (fun i=>l.getD i 0) w hpos (by omega) hB hxs cell htab
     simpa only [yL,et,hs,if_true,List.singleton_append] using this
  ·cases h
 ·cases h
def waC (more:FuncId→Option (List AV→Option AV)) (f:FuncId):Option (List AV→Option AV) :=
 match Nat.beq f 131 with
 | true=>some xaa
 | false=>match Nat.beq f 75 with
  | true=>some xae
  | false=>more f
theorem qbD {args:List AV} {t:TypeId} {x:AV} (h:xaa args=some (.ifc t x)):False:=by
 unfold xaa at h
 split at h <;> first | (cases h;done) | (split at h <;> cases h)
theorem ub1 {args:List AV} {t:TypeId} {x:AV} (h:xae args=some (.ifc t x)):False:=by
 unfold xae at h
 split at h <;> first | (cases h;done) | (split at h <;> cases h)
theorem gbK {more:FuncId→Option (List AV→Option AV)} (h:yr Tryz.prog more):yr Tryz.prog (waC more) where
 ok f g args r hf hp hr:=by
  unfold waC at hf
  split at hf
  ·rename_i e
   obtain rfl:=Nat.eq_of_beq_eq_true e
   injection hf with hf;subst hf
   exact .of_pure (ubD args r hr) fun x e=>by subst e;exact qbD hr
  ·split at hf
   ·rename_i e
    obtain rfl:=Nat.eq_of_beq_eq_true e
    injection hf with hf;subst hf
    exact .of_pure (jbj args r hr) fun x e=>by subst e;exact ub1 hr
   ·exact h.ok f g args r hf hp hr
end
end Go.Abs
