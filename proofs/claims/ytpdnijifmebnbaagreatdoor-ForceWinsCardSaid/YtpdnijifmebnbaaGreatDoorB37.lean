/-
  Steps to a law of this program: SFc5, SFl1, SFc6, SDr8, SWn5.
  Conditions: none.
-/
import Derived.Test.YtpdnijifmebnbaaGreatDoorB36
import Derived.Test.YtpdnijifmebnbaaGreatDoorB33
set_option linter.unusedVariables false
set_option linter.unusedSimpArgs false
set_option linter.unusedSectionVars false
namespace Go.Abs
noncomputable section
open Go.Proofs
theorem ga9 {n m:Nat} {l:List (Nat × AV)} (h:∀ p∈l,Lt n m p.2) (k i:Nat):∀ x∈zj l (fun _=>.junk) k i,Lt n m x:=fun x hx=>by
 obtain ⟨j,hj,rfl⟩:=List.getElem_of_mem hx
 rcases qW _ _ _ _ (List.getElem?_eq_getElem hj) with h1 | ⟨_,h1⟩
 ·exact h _ (qaK h1)
 ·rw [h1];exact .junk
theorem yY {l:List (Nat × AV)} {ts:List AV} {k:Nat} (hl:ts.length=k) (hm:jC ts l):q8 (zj l (fun _=>.junk) k 0) ts :=
 ⟨by rw [wac,hl],fun i x y hx hy=>by
  rcases qW _ _ _ _ hx with h | ⟨_,h⟩
  ·rw [Nat.zero_add] at h
   have:=xad hm _ _ h
   rw [hy] at this;injection this with this
   exact .inl this.symm
  ·exact .inr h⟩
theorem waF {x y z u:AV} (h:Pure x) (h':Pure y) (h'':Pure z) (h3:Pure u):∀ w∈[x,y,z,u],Pure w:=fun w hw=>by
 simp only [List.mem_cons,List.not_mem_nil,or_false] at hw
 rcases hw with rfl | rfl | rfl | rfl <;> assumption
def yp (os:List Nat) (oc:Option Nat) (rows:List ChR) (cc:Option Nat) (player:Nat) (A:AV) (x:Nat):List (Option Blk) :=
 [some (.rows [[.vs (osV os) oc,.vs (ja rows) cc]] false false),some (.rows [[.int .i64 ((player:Nat):Int)]] false false),some (.rows [[A]] false false),some (.rows [[.int .u64 ((x:Nat):Int)]] false false)]
theorem zA {os:List Nat} {oc:Option Nat} {rows:List ChR} {cc:Option Nat} {player:Nat} {A:AV} {x:Nat} (pM:Pure (.agg [.vs (osV os) oc,.vs (ja rows) cc])) (pA:Pure A):LtB (yp os oc rows cc player A x):=by
 intro b y hb
 have one:∀ (row:List AV) (z:Blk),(∀ w∈row,Pure w)→some (Blk.rows [row] false false)=some z→z.Lt 4 0:=fun row z hr he=>by
  injection he with he;subst he
  exact gL fun w hw=>(hr w hw).lt _ _
 match b,hb with
 | 0,hb =>
  refine one _ _ (fun w hw => ?_) (by simpa [Heap.blk?,yp] using hb)
  cases pM with
  | agg _ h=>obtain ⟨i,hi,rfl⟩:=List.getElem_of_mem hw;exact h i hi
 | 1,hb=>exact one _ _ (vb (.int _ _)) (by simpa [Heap.blk?,yp] using hb)
 | 2,hb=>exact one _ _ (vb pA) (by simpa [Heap.blk?,yp] using hb)
 | 3,hb=>exact one _ _ (vb (.int _ _)) (by simpa [Heap.blk?,yp] using hb)
 | b + 4,hb=>simp [Heap.blk?,yp] at hb
theorem ubm {n:Nat} {pl:Nat→Nat→Bool} {f x s:Nat} (h:jm (fun s => !x.testBit s && pl x s) 0 n=some s):wg n pl (f + 1) x=wg n pl f (x ||| 2 ^ s):=by
 conv=>lhs;unfold wg
 rw [h]
theorem jbm {n:Nat} {pl:Nat→Nat→Bool} {f x:Nat} (h:jm (fun s => !x.testBit s && pl x s) 0 n=none):wg n pl f x=x:=by
 cases f with
 | zero=>rfl
 | succ f =>
  conv=>lhs;unfold wg
  rw [h]
theorem wS {f41:FuncId} {A:AV} {x:Nat} {h:Heap} (pA:Pure A) (h2:h.blk? 2=some (.rows [[A]] false false)) (h3:h.blk? 3=some (.rows [[.int .u64 ((x:Nat):Int)]] false false)) :
  Frz h (.fn (.func f41) [] [.ptr 2 0 0,.ptr 3 0 0]) (.fn (.func f41) [] [.vp [A] 0,.vp [.int .u64 ((x:Nat):Int)] 0]):=by
 refine .fn _ _ _ _ _ rfl rfl (fun i hi=>by simp at hi) fun i hi hj => ?_
 match i,hi with
 | 0,_=>exact .ptr 2 0 0 [[A]] false false _ h2 (by simp) rfl fun t h1 h2=>(match t,h1 with | 0,_=>.pure _ pA)
 | 1,_=>exact .ptr 3 0 0 [[_]] false false _ h3 (by simp) rfl fun t h1 h2=>(match t,h1 with | 0,_=>.pure _ (.int _ _))
theorem wZ {f43 f41:FuncId} {A:AV} {x:Nat} {h:Heap} (pA:Pure A) (h2:h.blk? 2=some (.rows [[A]] false false)) (h3:h.blk? 3=some (.rows [[.int .u64 ((x:Nat):Int)]] false false))
  (h4:h.blk? 4=some (.rows [[.fn (.func f41) [] [.ptr 2 0 0,.ptr 3 0 0]]] false false)) :
  Frz h (.fn (.func f43) [] [.ptr 4 0 0]) (.fn (.func f43) [] [.vp [.fn (.func f41) [] [.vp [A] 0,.vp [.int .u64 ((x:Nat):Int)] 0]] 0]):=by
 refine .fn _ _ _ _ _ rfl rfl (fun i hi=>by simp at hi) fun i hi hj => ?_
 match i,hi with
 | 0,_=>exact .ptr 4 0 0 [[_]] false false _ h4 (by simp) rfl fun t h1 h2'=>(match t,h1 with | 0,_=>wS (f41:=f41) pA h2 h3)
theorem jA {f44:FuncId} {V F F':AV} {h:Heap} {b:Bool} {K:AV→Heap→Prop} (pV:Pure V) (hF:Frz h F F') (hp:zb Tryz.prog f44 [V,F'] (.bool b)) (hk:K (.bool b) h):CallSem Tryz.prog f44 [V,F] h K:=by
 refine qav (args':=[V,F']) rfl (fun i hi hj => ?_) hp (.bool _) hk
 match i,hi with
 | 0,_=>exact .pure _ pV
 | 1,_=>exact hF
theorem ja7 {os:List Nat} {oc cc:Option Nat} {rows:List ChR} (pM:Pure (.agg [.vs (osV os) oc,.vs (ja rows) cc])) {r:ChR} {t:Nat} (hr:rows[t]? = some r):Pure (.vs r.1 r.2):=by
 cases pM with
 | agg _ h =>
  have h1:Pure (.vs (ja rows) cc):=h 1 (by simp)
  cases h1 with
  | vs _ _ h2 =>
   obtain ⟨ht,rfl⟩:=List.getElem?_eq_some_iff.1 hr
   have:=h2 t (by simpa [ja] using ht) 0 (by simp [ja])
   simpa [ja] using this
set_option maxHeartbeats 8000000 in
set_option maxRecDepth 100000 in
theorem xb5 {ga:FuncId} {os:List Nat} {oc cc:Option Nat} {rows:List ChR} {target player:Nat} {φ:List AV→Bool} (hG:qaX os rows) (pM:Pure (.agg [.vs (osV os) oc,.vs (ja rows) cc])) (ht:target < 18446744073709551616)
  (ha:∀ r∈rows,∀ ch∈r.1,zb Tryz.prog ga [.agg ch] (.bool (φ ch))) :
  zb Tryz.prog 23 [.agg [.vs (osV os) oc,.vs (ja rows) cc],.int .u64 ((target:Nat):Int),.int .i64 ((player:Nat):Int),.fn (.func ga) [] []] (.int .u64 ((wg os.length (wd os rows φ player) os.length target:Nat):Int)):=by
 have pA:Pure (.fn (.func ga) [] []):=qk (fun _ h=>by simp at h)
 have hall:=vai (oc:=oc) (cc:=cc) pM hG.states
 obtain ⟨X,hXd⟩:∃ X,wg os.length (wd os rows φ player) os.length target=X:=⟨_,rfl⟩
 rw [hXd]
 refine yc (waF pM (.int _ _) (.int _ _) pA) (.int _ _) (jb xh mixed Tryz.func23 rfl (by decide +kernel) ?_)
 conv=>whnf
 repeat ((first | refine And.intro ⟨rfl,by decide,rfl⟩ ?_);conv=>whnf)
 refine za5 (A:=Nat × Nat) (fun a=>a.1) (fun a=>a.2 < 18446744073709551616∧yk a.2 0 os.length≤a.1∧wg os.length (wd os rows φ player) a.1 a.2=X)
  (fun _=>zj [(4,.ptr 0 0 0),(6,.ptr 1 0 0),(7,.ptr 2 0 0),(9,.ptr 3 0 0)] (fun _=>.junk) 63 0) (fun a=>yp os oc rows cc player (.fn (.func ga) [] []) a.2) rfl ?_ ?_ ?_
 ·rintro ⟨f,x⟩ -
  refine ⟨ga9 (fun p hp => ?_) _ _,zA pM pA⟩
  simp only [List.mem_cons,List.not_mem_nil,or_false] at hp
  rcases hp with rfl | rfl | rfl | rfl <;> exact .ptr _ _ _ (by simp [yp])
 ·refine zn xh mixed ?_
  conv=>whnf
  repeat ((first | refine And.intro ⟨by decide,rfl⟩ ?_ | refine qa rfl ?_);conv=>whnf)
  exact ⟨rfl,(os.length,target),⟨ht,uQ _ _ _,hXd⟩,0,rfl,yY rfl ⟨rfl,rfl,rfl,rfl,trivial⟩⟩
 ·rintro ⟨f,x⟩ ⟨hx,ho,hX⟩
  replace hx:x < 18446744073709551616:=hx
  replace ho:yk x 0 os.length≤f:=ho
  replace hX:wg os.length (wd os rows φ player) f x=X:=hX
  have hmem:=vbe (x:=wk (qb os.length) x) (oc:=oc) (cc:=cc) pM
  refine zn xh mixed ?_
  conv=>whnf
  refine Or.inl ⟨by decide +kernel,?_⟩
  conv=>whnf
  repeat ((first | (refine ⟨_,_,fun K hK=>(by (conv=>whnf);first | (rw [wD];exact hK) | exact hK | exact za rfl hK | exact wa hall (vb pM) hK | exact wa hmem (wb pM (.int _ _)) hK | (refine qa rfl ?_;(conv=>whnf);exact hK)),?_⟩;first | refine Or.inl ⟨rfl,(by repeat' (first | exact True.intro | refine And.intro ?_ ?_ | exact Or.inl (by decide +kernel) | decide +kernel | exact Or.inr (fun K hK=>(by (conv=>whnf);first | (rw [wD];exact hK) | exact hK | exact za rfl hK | exact wa hall (vb pM) hK | exact wa hmem (wb pM (.int _ _)) hK | (refine qa rfl ?_;(conv=>whnf);exact hK))))),?_⟩ | refine Or.inr (zo (by repeat' (first | exact True.intro | refine And.intro ?_ ?_ | exact Or.inl (by decide +kernel) | decide +kernel | exact Or.inr (fun K hK=>(by (conv=>whnf);first | (rw [wD];exact hK) | exact hK | exact za rfl hK | exact wa hall (vb pM) hK | exact wa hmem (wb pM (.int _ _)) hK | (refine qa rfl ?_;(conv=>whnf);exact hK))))) ?_)));conv=>whnf)
  have hst:=hG.states
  have hbit:∀ t,t < os.length→(wk (qb os.length) x).testBit t = !x.testBit t:=fun t h=>by
   rw [yav _ _ _ (by omega),y8];simp [h]
  have hpy:∀ t,t < 0 + os.length→(!x.testBit t && wd os rows φ player x t)=true→(wk (qb os.length) x).testBit t=true:=fun t h1 h2=>by
   rw [hbit t (by omega)]
   cases hb:x.testBit t with
   | false=>rfl
   | true=>rw [hb] at h2;simp at h2
  refine wab (ube hst) rfl (fun _ h=>by cases h)
   (fun vs B=>(∃ s k,vs=zp (wk (qb os.length) x) s k∧s + k=os.length∧jm (fun s => !x.testBit s && wd os rows φ player x s) 0 os.length=jm (fun s => !x.testBit s && wd os rows φ player x s) s k)∧B=yp os oc rows cc player (.fn (.func ga) [] []) x)
   ⟨⟨0,os.length,rfl,by omega,rfl⟩,rfl⟩ (zA pM pA) ?_ ?_
  ·rintro v vs B ⟨⟨s,k,hvs,hsk,hfs⟩,rfl⟩ -
   obtain ⟨t,j,rfl,e2,e3,e4,e5,e6⟩:=jaJ (fun t h1=>hpy t (by omega)) hvs.symm
   have htn:t < os.length:=by omega
   have htb:x.testBit t=false:=by
    rw [hbit t htn] at e4
    simpa using e4
   refine ⟨rfl,vb (.int _ _),fun r=>zn xh mixed ?_⟩
   conv=>whnf
   refine ⟨rfl,_,rfl,fun r'=>zn xh mixed ?_⟩
   conv=>whnf
   repeat ((first | refine And.intro ⟨by decide,rfl⟩ ?_ | refine qa rfl ?_);conv=>whnf)
   obtain ⟨o,hot⟩:∃ o,os[t]? = some o:=⟨_,List.getElem?_eq_getElem htn⟩
   obtain ⟨r0,hrt⟩:∃ r0,rows[t]? = some r0:=⟨_,List.getElem?_eq_getElem (by rw [hG.width];exact htn)⟩
   have hrm:r0∈rows:=List.mem_of_getElem? hrt
   have hos:(osV os)[t]? = some [.int .i64 ((o:Nat):Int)]:=by simp [osV,hot]
   have hrs:(ja rows)[t]? = some [.vs r0.1 r0.2]:=by simp [ja,hrt]
   have pR:=ja7 pM hrt
   have hch:=fun (z:List AV) (hz:z∈r0.1)=>hG.cells r0 hrm z hz
   have hgd:=wbt (c:=r0.2) (g:=41) (r0:=[.fn (.func ga) [] []]) (r1:=[.int .u64 ((x:Nat):Int)]) (fun ch=>φ ch && jg x ch) (hG.count r0 hrm) pR (wb (uu pA) (jk x)) (fun z hz=>(hch z hz).elim fun l h=>⟨l,h.1⟩)
    (fun z hz=>by obtain ⟨l,h1,h2,h3⟩:=hch z hz;rw [yak h1];exact vbn h1 h2 h3 (ha r0 hrm z hz))
   have hbd:=vbt (c:=r0.2) (g:=43) (r0:=[.fn (.func 41) [] [.vp [.fn (.func ga) [] []] 0,.vp [.int .u64 ((x:Nat):Int)] 0]]) (fun ch => !(φ ch && jg x ch)) (hG.count r0 hrm) pR (vb (uu (qk (wb (uu pA) (jk x))))) (fun z hz=>(hch z hz).elim fun l h=>⟨l,h.1⟩)
    (fun z hz=>by obtain ⟨l,h1,h2,h3⟩:=hch z hz;rw [yak h1];exact gcf h1 h2 h3 (ha r0 hrm z hz))
   have hpl:wd os rows φ player x t=if o=player then r0.1.any (fun ch=>φ ch && jg x ch) else !(r0.1.any fun ch => !(φ ch && jg x ch)):=by
    unfold wd vk
    rw [List.getD_eq_getElem?_getD,hot,hrt];rfl
   generalize (r0.1.any fun ch=>φ ch && jg x ch)=b1 at hgd hpl
   generalize (r0.1.any fun ch => !(φ ch && jg x ch))=b2 at hbd hpl
   refine Or.inl ⟨by decide +kernel,?_⟩
   conv=>whnf
   have hnext:wd os rows φ player x t=true→∃ f',f=f' + 1∧x ||| 2 ^ t < 18446744073709551616∧yk (x ||| 2 ^ t) 0 os.length≤f'∧wg os.length (wd os rows φ player) f' (x ||| 2 ^ t)=X:=fun hp=>by
    have o1:=qan htb (k:=os.length) (s:=0) (Nat.zero_le _) (by omega)
    obtain ⟨f',rfl⟩:∃ f',f=f' + 1:=⟨f - 1,by omega⟩
    have o2:=gan x t htb os.length 0
    rw [if_pos ⟨Nat.zero_le _,by omega⟩] at o2
    refine ⟨f',rfl,Nat.or_lt_two_pow (n:=64) hx (Nat.pow_lt_pow_right (by decide) (by omega)),by omega,?_⟩
    have hpt:(!x.testBit t && wd os rows φ player x t)=true:=by rw [htb,hp];rfl
    rw [← hX]
    exact (ubm (hfs.trans (e6.trans (if_pos hpt)))).symm
   have hstay:wd os rows φ player x t=false→jm (fun s => !x.testBit s && wd os rows φ player x s) 0 os.length=jm (fun s => !x.testBit s && wd os rows φ player x s) (t + 1) j:=fun hp=>by
    have hpt:¬ (!x.testBit t && wd os rows φ player x t)=true:=by rw [hp];simp
    exact hfs.trans (e6.trans (if_neg hpt))
   obtain ⟨eo,heo⟩:∃ eo,(((o:Nat):Int) == ((player:Nat):Int))=eo:=⟨_,rfl⟩
   have heo2:(((o:Nat):Int) != ((player:Nat):Int)) = !eo:=by rw [← heo];rfl
   have hpl2:wd os rows φ player x t=bif eo then b1 else !b2:=by
    rw [hpl]
    by_cases h:o=player
    ·subst h
     have:eo=true:=by rw [← heo];simp
     rw [this,if_pos rfl];rfl
    ·have:eo=false:=by rw [← heo];exact beq_eq_false_iff_ne.2 fun e=>h (by omega)
     rw [this,if_neg h];rfl
   clear hpl
   cases eo
   ·cases b2
    all_goals
     repeat ((first | refine ua (by first | rfl | exact heo | exact heo2 | exact (congrArg (· == true) heo).trans rfl | exact (congrArg (· == true) heo2).trans rfl) ?_ | refine ya (by first | rfl | exact heo | exact heo2 | exact (congrArg (· == true) heo).trans rfl | exact (congrArg (· == true) heo2).trans rfl) ?_ | (refine ⟨_,_,fun K hK=>(by (conv=>whnf);first | exact hK | exact za rfl hK | exact ua (by first | rfl | exact heo | exact heo2 | exact (congrArg (· == true) heo).trans rfl | exact (congrArg (· == true) heo2).trans rfl) hK | exact ya (by first | rfl | exact heo | exact heo2 | exact (congrArg (· == true) heo).trans rfl | exact (congrArg (· == true) heo2).trans rfl) hK | exact uc t rfl hos rfl hK | exact uc t rfl hrs rfl hK | exact qm (jA pR (wZ pA rfl rfl rfl) hbd hK) | (refine qa rfl ?_;(conv=>whnf);exact hK)),?_⟩;first | refine Or.inl ⟨rfl,(by repeat' (first | exact True.intro | refine And.intro ?_ ?_ | exact Or.inl (by decide +kernel) | decide +kernel | exact Or.inr (fun K hK=>(by (conv=>whnf);first | exact hK | exact za rfl hK | exact ua (by first | rfl | exact heo | exact heo2 | exact (congrArg (· == true) heo).trans rfl | exact (congrArg (· == true) heo2).trans rfl) hK | exact ya (by first | rfl | exact heo | exact heo2 | exact (congrArg (· == true) heo).trans rfl | exact (congrArg (· == true) heo2).trans rfl) hK | exact uc t rfl hos rfl hK | exact uc t rfl hrs rfl hK | exact qm (jA pR (wZ pA rfl rfl rfl) hbd hK) | (refine qa rfl ?_;(conv=>whnf);exact hK))))),?_⟩ | refine Or.inr (zo (by repeat' (first | exact True.intro | refine And.intro ?_ ?_ | exact Or.inl (by decide +kernel) | decide +kernel | exact Or.inr (fun K hK=>(by (conv=>whnf);first | exact hK | exact za rfl hK | exact ua (by first | rfl | exact heo | exact heo2 | exact (congrArg (· == true) heo).trans rfl | exact (congrArg (· == true) heo2).trans rfl) hK | exact ya (by first | rfl | exact heo | exact heo2 | exact (congrArg (· == true) heo).trans rfl | exact (congrArg (· == true) heo2).trans rfl) hK | exact uc t rfl hos rfl hK | exact uc t rfl hrs rfl hK | exact qm (jA pR (wZ pA rfl rfl rfl) hbd hK) | (refine qa rfl ?_;(conv=>whnf);exact hK))))) ?_)));conv=>whnf)
    ·obtain ⟨f',rfl,hx2,ho2,hX2⟩:=hnext hpl2
     refine Or.inl ⟨by decide +kernel,?_⟩
     conv=>whnf
     repeat ((first | (refine ⟨_,_,fun K hK=>(by (conv=>whnf);first | (rw [zx x t hx (by omega)];exact hK) | exact hK | exact za rfl hK | exact And.intro (Int.natCast_nonneg _) hK | (refine qa rfl ?_;(conv=>whnf);exact hK)),?_⟩;first | refine Or.inl ⟨rfl,(by repeat' (first | exact True.intro | refine And.intro ?_ ?_ | exact Or.inl (by decide +kernel) | decide +kernel | exact Or.inr (fun K hK=>(by (conv=>whnf);first | (rw [zx x t hx (by omega)];exact hK) | exact hK | exact za rfl hK | exact And.intro (Int.natCast_nonneg _) hK | (refine qa rfl ?_;(conv=>whnf);exact hK))))),?_⟩ | refine Or.inr (zo (by repeat' (first | exact True.intro | refine And.intro ?_ ?_ | exact Or.inl (by decide +kernel) | decide +kernel | exact Or.inr (fun K hK=>(by (conv=>whnf);first | (rw [zx x t hx (by omega)];exact hK) | exact hK | exact za rfl hK | exact And.intro (Int.natCast_nonneg _) hK | (refine qa rfl ?_;(conv=>whnf);exact hK))))) ?_)));conv=>whnf)
     exact ⟨yp os oc rows cc player (.fn (.func ga) [] []) (x ||| 2 ^ t),[some _],rfl,rfl,zA pM pA,rfl,rfl,(f',x ||| 2 ^ t),Nat.lt_succ_self _,⟨hx2,ho2,hX2⟩,1,rfl,yY rfl ⟨rfl,rfl,rfl,rfl,trivial⟩⟩
    ·exact ⟨yp os oc rows cc player (.fn (.func ga) [] []) x,[some _],rfl,rfl,zA pM pA,⟨⟨t + 1,j,e5,by omega,hstay hpl2⟩,rfl⟩⟩
   ·cases b1
    all_goals
     repeat ((first | refine ua (by first | rfl | exact heo | exact heo2 | exact (congrArg (· == true) heo).trans rfl | exact (congrArg (· == true) heo2).trans rfl) ?_ | refine ya (by first | rfl | exact heo | exact heo2 | exact (congrArg (· == true) heo).trans rfl | exact (congrArg (· == true) heo2).trans rfl) ?_ | (refine ⟨_,_,fun K hK=>(by (conv=>whnf);first | exact hK | exact za rfl hK | exact ua (by first | rfl | exact heo | exact heo2 | exact (congrArg (· == true) heo).trans rfl | exact (congrArg (· == true) heo2).trans rfl) hK | exact ya (by first | rfl | exact heo | exact heo2 | exact (congrArg (· == true) heo).trans rfl | exact (congrArg (· == true) heo2).trans rfl) hK | exact uc t rfl hos rfl hK | exact uc t rfl hrs rfl hK | exact qm (jA pR (wS pA rfl rfl) hgd hK) | (refine qa rfl ?_;(conv=>whnf);exact hK)),?_⟩;first | refine Or.inl ⟨rfl,(by repeat' (first | exact True.intro | refine And.intro ?_ ?_ | exact Or.inl (by decide +kernel) | decide +kernel | exact Or.inr (fun K hK=>(by (conv=>whnf);first | exact hK | exact za rfl hK | exact ua (by first | rfl | exact heo | exact heo2 | exact (congrArg (· == true) heo).trans rfl | exact (congrArg (· == true) heo2).trans rfl) hK | exact ya (by first | rfl | exact heo | exact heo2 | exact (congrArg (· == true) heo).trans rfl | exact (congrArg (· == true) heo2).trans rfl) hK | exact uc t rfl hos rfl hK | exact uc t rfl hrs rfl hK | exact qm (jA pR (wS pA rfl rfl) hgd hK) | (refine qa rfl ?_;(conv=>whnf);exact hK))))),?_⟩ | refine Or.inr (zo (by repeat' (first | exact True.intro | refine And.intro ?_ ?_ | exact Or.inl (by decide +kernel) | decide +kernel | exact Or.inr (fun K hK=>(by (conv=>whnf);first | exact hK | exact za rfl hK | exact ua (by first | rfl | exact heo | exact heo2 | exact (congrArg (· == true) heo).trans rfl | exact (congrArg (· == true) heo2).trans rfl) hK | exact ya (by first | rfl | exact heo | exact heo2 | exact (congrArg (· == true) heo).trans rfl | exact (congrArg (· == true) heo2).trans rfl) hK | exact uc t rfl hos rfl hK | exact uc t rfl hrs rfl hK | exact qm (jA pR (wS pA rfl rfl) hgd hK) | (refine qa rfl ?_;(conv=>whnf);exact hK))))) ?_)));conv=>whnf)
    ·exact ⟨yp os oc rows cc player (.fn (.func ga) [] []) x,[some _],rfl,rfl,zA pM pA,⟨⟨t + 1,j,e5,by omega,hstay hpl2⟩,rfl⟩⟩
    ·obtain ⟨f',rfl,hx2,ho2,hX2⟩:=hnext hpl2
     refine Or.inl ⟨by decide +kernel,?_⟩
     conv=>whnf
     repeat ((first | (refine ⟨_,_,fun K hK=>(by (conv=>whnf);first | (rw [zx x t hx (by omega)];exact hK) | exact hK | exact za rfl hK | exact And.intro (Int.natCast_nonneg _) hK | (refine qa rfl ?_;(conv=>whnf);exact hK)),?_⟩;first | refine Or.inl ⟨rfl,(by repeat' (first | exact True.intro | refine And.intro ?_ ?_ | exact Or.inl (by decide +kernel) | decide +kernel | exact Or.inr (fun K hK=>(by (conv=>whnf);first | (rw [zx x t hx (by omega)];exact hK) | exact hK | exact za rfl hK | exact And.intro (Int.natCast_nonneg _) hK | (refine qa rfl ?_;(conv=>whnf);exact hK))))),?_⟩ | refine Or.inr (zo (by repeat' (first | exact True.intro | refine And.intro ?_ ?_ | exact Or.inl (by decide +kernel) | decide +kernel | exact Or.inr (fun K hK=>(by (conv=>whnf);first | (rw [zx x t hx (by omega)];exact hK) | exact hK | exact za rfl hK | exact And.intro (Int.natCast_nonneg _) hK | (refine qa rfl ?_;(conv=>whnf);exact hK))))) ?_)));conv=>whnf)
     exact ⟨yp os oc rows cc player (.fn (.func ga) [] []) (x ||| 2 ^ t),[some _],rfl,rfl,zA pM pA,rfl,rfl,(f',x ||| 2 ^ t),Nat.lt_succ_self _,⟨hx2,ho2,hX2⟩,1,rfl,yY rfl ⟨rfl,rfl,rfl,rfl,trivial⟩⟩
  ·rintro B ⟨⟨s,k,hvs,hsk,hfs⟩,rfl⟩ -
   have hno:jm (fun s => !x.testBit s && wd os rows φ player x s) 0 os.length=none:=hfs.trans (uaJ (fun t h1=>hpy t (by omega)) hvs.symm)
   rw [jbm hno] at hX
   subst hX
   conv=>whnf
   repeat ((first | refine za rfl ?_ | refine And.intro rfl ?_);conv=>whnf)
   exact .pure _ (.int _ _)
set_option maxHeartbeats 8000000 in
set_option maxRecDepth 100000 in
theorem yb5 {ga:FuncId} {os:List Nat} {oc cc:Option Nat} {rows:List ChR} {target player y:Nat} {φ:List AV→Bool} (hG:qaX os rows) (pM:Pure (.agg [.vs (osV os) oc,.vs (ja rows) cc])) (ht:target < 18446744073709551616)
  (ha:∀ r∈rows,∀ ch∈r.1,zb Tryz.prog ga [.agg ch,.vp [.int .u64 ((y:Nat):Int)] 0] (.bool (φ ch))) :
  zb Tryz.prog 23 [.agg [.vs (osV os) oc,.vs (ja rows) cc],.int .u64 ((target:Nat):Int),.int .i64 ((player:Nat):Int),.fn (.func ga) [] [.vp [.int .u64 ((y:Nat):Int)] 0]] (.int .u64 ((wg os.length (wd os rows φ player) os.length target:Nat):Int)):=by
 have pA:Pure (.fn (.func ga) [] [.vp [.int .u64 ((y:Nat):Int)] 0]):=qk (vb (jk y))
 have hall:=vai (oc:=oc) (cc:=cc) pM hG.states
 obtain ⟨X,hXd⟩:∃ X,wg os.length (wd os rows φ player) os.length target=X:=⟨_,rfl⟩
 rw [hXd]
 refine yc (waF pM (.int _ _) (.int _ _) pA) (.int _ _) (jb xh mixed Tryz.func23 rfl (by decide +kernel) ?_)
 conv=>whnf
 repeat ((first | refine And.intro ⟨rfl,by decide,rfl⟩ ?_);conv=>whnf)
 refine za5 (A:=Nat × Nat) (fun a=>a.1) (fun a=>a.2 < 18446744073709551616∧yk a.2 0 os.length≤a.1∧wg os.length (wd os rows φ player) a.1 a.2=X)
  (fun _=>zj [(4,.ptr 0 0 0),(6,.ptr 1 0 0),(7,.ptr 2 0 0),(9,.ptr 3 0 0)] (fun _=>.junk) 63 0) (fun a=>yp os oc rows cc player (.fn (.func ga) [] [.vp [.int .u64 ((y:Nat):Int)] 0]) a.2) rfl ?_ ?_ ?_
 ·rintro ⟨f,x⟩ -
  refine ⟨ga9 (fun p hp => ?_) _ _,zA pM pA⟩
  simp only [List.mem_cons,List.not_mem_nil,or_false] at hp
  rcases hp with rfl | rfl | rfl | rfl <;> exact .ptr _ _ _ (by simp [yp])
 ·refine zn xh mixed ?_
  conv=>whnf
  repeat ((first | refine And.intro ⟨by decide,rfl⟩ ?_ | refine qa rfl ?_);conv=>whnf)
  exact ⟨rfl,(os.length,target),⟨ht,uQ _ _ _,hXd⟩,0,rfl,yY rfl ⟨rfl,rfl,rfl,rfl,trivial⟩⟩
 ·rintro ⟨f,x⟩ ⟨hx,ho,hX⟩
  replace hx:x < 18446744073709551616:=hx
  replace ho:yk x 0 os.length≤f:=ho
  replace hX:wg os.length (wd os rows φ player) f x=X:=hX
  have hmem:=vbe (x:=wk (qb os.length) x) (oc:=oc) (cc:=cc) pM
  refine zn xh mixed ?_
  conv=>whnf
  refine Or.inl ⟨by decide +kernel,?_⟩
  conv=>whnf
  repeat ((first | (refine ⟨_,_,fun K hK=>(by (conv=>whnf);first | (rw [wD];exact hK) | exact hK | exact za rfl hK | exact wa hall (vb pM) hK | exact wa hmem (wb pM (.int _ _)) hK | (refine qa rfl ?_;(conv=>whnf);exact hK)),?_⟩;first | refine Or.inl ⟨rfl,(by repeat' (first | exact True.intro | refine And.intro ?_ ?_ | exact Or.inl (by decide +kernel) | decide +kernel | exact Or.inr (fun K hK=>(by (conv=>whnf);first | (rw [wD];exact hK) | exact hK | exact za rfl hK | exact wa hall (vb pM) hK | exact wa hmem (wb pM (.int _ _)) hK | (refine qa rfl ?_;(conv=>whnf);exact hK))))),?_⟩ | refine Or.inr (zo (by repeat' (first | exact True.intro | refine And.intro ?_ ?_ | exact Or.inl (by decide +kernel) | decide +kernel | exact Or.inr (fun K hK=>(by (conv=>whnf);first | (rw [wD];exact hK) | exact hK | exact za rfl hK | exact wa hall (vb pM) hK | exact wa hmem (wb pM (.int _ _)) hK | (refine qa rfl ?_;(conv=>whnf);exact hK))))) ?_)));conv=>whnf)
  have hst:=hG.states
  have hbit:∀ t,t < os.length→(wk (qb os.length) x).testBit t = !x.testBit t:=fun t h=>by
   rw [yav _ _ _ (by omega),y8];simp [h]
  have hpy:∀ t,t < 0 + os.length→(!x.testBit t && wd os rows φ player x t)=true→(wk (qb os.length) x).testBit t=true:=fun t h1 h2=>by
   rw [hbit t (by omega)]
   cases hb:x.testBit t with
   | false=>rfl
   | true=>rw [hb] at h2;simp at h2
  refine wab (ube hst) rfl (fun _ h=>by cases h)
   (fun vs B=>(∃ s k,vs=zp (wk (qb os.length) x) s k∧s + k=os.length∧jm (fun s => !x.testBit s && wd os rows φ player x s) 0 os.length=jm (fun s => !x.testBit s && wd os rows φ player x s) s k)∧B=yp os oc rows cc player (.fn (.func ga) [] [.vp [.int .u64 ((y:Nat):Int)] 0]) x)
   ⟨⟨0,os.length,rfl,by omega,rfl⟩,rfl⟩ (zA pM pA) ?_ ?_
  ·rintro v vs B ⟨⟨s,k,hvs,hsk,hfs⟩,rfl⟩ -
   obtain ⟨t,j,rfl,e2,e3,e4,e5,e6⟩:=jaJ (fun t h1=>hpy t (by omega)) hvs.symm
   have htn:t < os.length:=by omega
   have htb:x.testBit t=false:=by
    rw [hbit t htn] at e4
    simpa using e4
   refine ⟨rfl,vb (.int _ _),fun r=>zn xh mixed ?_⟩
   conv=>whnf
   refine ⟨rfl,_,rfl,fun r'=>zn xh mixed ?_⟩
   conv=>whnf
   repeat ((first | refine And.intro ⟨by decide,rfl⟩ ?_ | refine qa rfl ?_);conv=>whnf)
   obtain ⟨o,hot⟩:∃ o,os[t]? = some o:=⟨_,List.getElem?_eq_getElem htn⟩
   obtain ⟨r0,hrt⟩:∃ r0,rows[t]? = some r0:=⟨_,List.getElem?_eq_getElem (by rw [hG.width];exact htn)⟩
   have hrm:r0∈rows:=List.mem_of_getElem? hrt
   have hos:(osV os)[t]? = some [.int .i64 ((o:Nat):Int)]:=by simp [osV,hot]
   have hrs:(ja rows)[t]? = some [.vs r0.1 r0.2]:=by simp [ja,hrt]
   have pR:=ja7 pM hrt
   have hch:=fun (z:List AV) (hz:z∈r0.1)=>hG.cells r0 hrm z hz
   have hgd:=wbt (c:=r0.2) (g:=41) (r0:=[.fn (.func ga) [] [.vp [.int .u64 ((y:Nat):Int)] 0]]) (r1:=[.int .u64 ((x:Nat):Int)]) (fun ch=>φ ch && jg x ch) (hG.count r0 hrm) pR (wb (uu pA) (jk x)) (fun z hz=>(hch z hz).elim fun l h=>⟨l,h.1⟩)
    (fun z hz=>by obtain ⟨l,h1,h2,h3⟩:=hch z hz;rw [yak h1];exact wbn h1 h2 h3 (ha r0 hrm z hz))
   have hbd:=vbt (c:=r0.2) (g:=43) (r0:=[.fn (.func 41) [] [.vp [.fn (.func ga) [] [.vp [.int .u64 ((y:Nat):Int)] 0]] 0,.vp [.int .u64 ((x:Nat):Int)] 0]]) (fun ch => !(φ ch && jg x ch)) (hG.count r0 hrm) pR (vb (uu (qk (wb (uu pA) (jk x))))) (fun z hz=>(hch z hz).elim fun l h=>⟨l,h.1⟩)
    (fun z hz=>by obtain ⟨l,h1,h2,h3⟩:=hch z hz;rw [yak h1];exact qcf h1 h2 h3 (ha r0 hrm z hz))
   have hpl:wd os rows φ player x t=if o=player then r0.1.any (fun ch=>φ ch && jg x ch) else !(r0.1.any fun ch => !(φ ch && jg x ch)):=by
    unfold wd vk
    rw [List.getD_eq_getElem?_getD,hot,hrt];rfl
   generalize (r0.1.any fun ch=>φ ch && jg x ch)=b1 at hgd hpl
   generalize (r0.1.any fun ch => !(φ ch && jg x ch))=b2 at hbd hpl
   refine Or.inl ⟨by decide +kernel,?_⟩
   conv=>whnf
   have hnext:wd os rows φ player x t=true→∃ f',f=f' + 1∧x ||| 2 ^ t < 18446744073709551616∧yk (x ||| 2 ^ t) 0 os.length≤f'∧wg os.length (wd os rows φ player) f' (x ||| 2 ^ t)=X:=fun hp=>by
    have o1:=qan htb (k:=os.length) (s:=0) (Nat.zero_le _) (by omega)
    obtain ⟨f',rfl⟩:∃ f',f=f' + 1:=⟨f - 1,by omega⟩
    have o2:=gan x t htb os.length 0
    rw [if_pos ⟨Nat.zero_le _,by omega⟩] at o2
    refine ⟨f',rfl,Nat.or_lt_two_pow (n:=64) hx (Nat.pow_lt_pow_right (by decide) (by omega)),by omega,?_⟩
    have hpt:(!x.testBit t && wd os rows φ player x t)=true:=by rw [htb,hp];rfl
    rw [← hX]
    exact (ubm (hfs.trans (e6.trans (if_pos hpt)))).symm
   have hstay:wd os rows φ player x t=false→jm (fun s => !x.testBit s && wd os rows φ player x s) 0 os.length=jm (fun s => !x.testBit s && wd os rows φ player x s) (t + 1) j:=fun hp=>by
    have hpt:¬ (!x.testBit t && wd os rows φ player x t)=true:=by rw [hp];simp
    exact hfs.trans (e6.trans (if_neg hpt))
   obtain ⟨eo,heo⟩:∃ eo,(((o:Nat):Int) == ((player:Nat):Int))=eo:=⟨_,rfl⟩
   have heo2:(((o:Nat):Int) != ((player:Nat):Int)) = !eo:=by rw [← heo];rfl
   have hpl2:wd os rows φ player x t=bif eo then b1 else !b2:=by
    rw [hpl]
    by_cases h:o=player
    ·subst h
     have:eo=true:=by rw [← heo];simp
     rw [this,if_pos rfl];rfl
    ·have:eo=false:=by rw [← heo];exact beq_eq_false_iff_ne.2 fun e=>h (by omega)
     rw [this,if_neg h];rfl
   clear hpl
   cases eo
   ·cases b2
    all_goals
     repeat ((first | refine ua (by first | rfl | exact heo | exact heo2 | exact (congrArg (· == true) heo).trans rfl | exact (congrArg (· == true) heo2).trans rfl) ?_ | refine ya (by first | rfl | exact heo | exact heo2 | exact (congrArg (· == true) heo).trans rfl | exact (congrArg (· == true) heo2).trans rfl) ?_ | (refine ⟨_,_,fun K hK=>(by (conv=>whnf);first | exact hK | exact za rfl hK | exact ua (by first | rfl | exact heo | exact heo2 | exact (congrArg (· == true) heo).trans rfl | exact (congrArg (· == true) heo2).trans rfl) hK | exact ya (by first | rfl | exact heo | exact heo2 | exact (congrArg (· == true) heo).trans rfl | exact (congrArg (· == true) heo2).trans rfl) hK | exact uc t rfl hos rfl hK | exact uc t rfl hrs rfl hK | exact qm (jA pR (wZ pA rfl rfl rfl) hbd hK) | (refine qa rfl ?_;(conv=>whnf);exact hK)),?_⟩;first | refine Or.inl ⟨rfl,(by repeat' (first | exact True.intro | refine And.intro ?_ ?_ | exact Or.inl (by decide +kernel) | decide +kernel | exact Or.inr (fun K hK=>(by (conv=>whnf);first | exact hK | exact za rfl hK | exact ua (by first | rfl | exact heo | exact heo2 | exact (congrArg (· == true) heo).trans rfl | exact (congrArg (· == true) heo2).trans rfl) hK | exact ya (by first | rfl | exact heo | exact heo2 | exact (congrArg (· == true) heo).trans rfl | exact (congrArg (· == true) heo2).trans rfl) hK | exact uc t rfl hos rfl hK | exact uc t rfl hrs rfl hK | exact qm (jA pR (wZ pA rfl rfl rfl) hbd hK) | (refine qa rfl ?_;(conv=>whnf);exact hK))))),?_⟩ | refine Or.inr (zo (by repeat' (first | exact True.intro | refine And.intro ?_ ?_ | exact Or.inl (by decide +kernel) | decide +kernel | exact Or.inr (fun K hK=>(by (conv=>whnf);first | exact hK | exact za rfl hK | exact ua (by first | rfl | exact heo | exact heo2 | exact (congrArg (· == true) heo).trans rfl | exact (congrArg (· == true) heo2).trans rfl) hK | exact ya (by first | rfl | exact heo | exact heo2 | exact (congrArg (· == true) heo).trans rfl | exact (congrArg (· == true) heo2).trans rfl) hK | exact uc t rfl hos rfl hK | exact uc t rfl hrs rfl hK | exact qm (jA pR (wZ pA rfl rfl rfl) hbd hK) | (refine qa rfl ?_;(conv=>whnf);exact hK))))) ?_)));conv=>whnf)
    ·obtain ⟨f',rfl,hx2,ho2,hX2⟩:=hnext hpl2
     refine Or.inl ⟨by decide +kernel,?_⟩
     conv=>whnf
     repeat ((first | (refine ⟨_,_,fun K hK=>(by (conv=>whnf);first | (rw [zx x t hx (by omega)];exact hK) | exact hK | exact za rfl hK | exact And.intro (Int.natCast_nonneg _) hK | (refine qa rfl ?_;(conv=>whnf);exact hK)),?_⟩;first | refine Or.inl ⟨rfl,(by repeat' (first | exact True.intro | refine And.intro ?_ ?_ | exact Or.inl (by decide +kernel) | decide +kernel | exact Or.inr (fun K hK=>(by (conv=>whnf);first | (rw [zx x t hx (by omega)];exact hK) | exact hK | exact za rfl hK | exact And.intro (Int.natCast_nonneg _) hK | (refine qa rfl ?_;(conv=>whnf);exact hK))))),?_⟩ | refine Or.inr (zo (by repeat' (first | exact True.intro | refine And.intro ?_ ?_ | exact Or.inl (by decide +kernel) | decide +kernel | exact Or.inr (fun K hK=>(by (conv=>whnf);first | (rw [zx x t hx (by omega)];exact hK) | exact hK | exact za rfl hK | exact And.intro (Int.natCast_nonneg _) hK | (refine qa rfl ?_;(conv=>whnf);exact hK))))) ?_)));conv=>whnf)
     exact ⟨yp os oc rows cc player (.fn (.func ga) [] [.vp [.int .u64 ((y:Nat):Int)] 0]) (x ||| 2 ^ t),[some _],rfl,rfl,zA pM pA,rfl,rfl,(f',x ||| 2 ^ t),Nat.lt_succ_self _,⟨hx2,ho2,hX2⟩,1,rfl,yY rfl ⟨rfl,rfl,rfl,rfl,trivial⟩⟩
    ·exact ⟨yp os oc rows cc player (.fn (.func ga) [] [.vp [.int .u64 ((y:Nat):Int)] 0]) x,[some _],rfl,rfl,zA pM pA,⟨⟨t + 1,j,e5,by omega,hstay hpl2⟩,rfl⟩⟩
   ·cases b1
    all_goals
     repeat ((first | refine ua (by first | rfl | exact heo | exact heo2 | exact (congrArg (· == true) heo).trans rfl | exact (congrArg (· == true) heo2).trans rfl) ?_ | refine ya (by first | rfl | exact heo | exact heo2 | exact (congrArg (· == true) heo).trans rfl | exact (congrArg (· == true) heo2).trans rfl) ?_ | (refine ⟨_,_,fun K hK=>(by (conv=>whnf);first | exact hK | exact za rfl hK | exact ua (by first | rfl | exact heo | exact heo2 | exact (congrArg (· == true) heo).trans rfl | exact (congrArg (· == true) heo2).trans rfl) hK | exact ya (by first | rfl | exact heo | exact heo2 | exact (congrArg (· == true) heo).trans rfl | exact (congrArg (· == true) heo2).trans rfl) hK | exact uc t rfl hos rfl hK | exact uc t rfl hrs rfl hK | exact qm (jA pR (wS pA rfl rfl) hgd hK) | (refine qa rfl ?_;(conv=>whnf);exact hK)),?_⟩;first | refine Or.inl ⟨rfl,(by repeat' (first | exact True.intro | refine And.intro ?_ ?_ | exact Or.inl (by decide +kernel) | decide +kernel | exact Or.inr (fun K hK=>(by (conv=>whnf);first | exact hK | exact za rfl hK | exact ua (by first | rfl | exact heo | exact heo2 | exact (congrArg (· == true) heo).trans rfl | exact (congrArg (· == true) heo2).trans rfl) hK | exact ya (by first | rfl | exact heo | exact heo2 | exact (congrArg (· == true) heo).trans rfl | exact (congrArg (· == true) heo2).trans rfl) hK | exact uc t rfl hos rfl hK | exact uc t rfl hrs rfl hK | exact qm (jA pR (wS pA rfl rfl) hgd hK) | (refine qa rfl ?_;(conv=>whnf);exact hK))))),?_⟩ | refine Or.inr (zo (by repeat' (first | exact True.intro | refine And.intro ?_ ?_ | exact Or.inl (by decide +kernel) | decide +kernel | exact Or.inr (fun K hK=>(by (conv=>whnf);first | exact hK | exact za rfl hK | exact ua (by first | rfl | exact heo | exact heo2 | exact (congrArg (· == true) heo).trans rfl | exact (congrArg (· == true) heo2).trans rfl) hK | exact ya (by first | rfl | exact heo | exact heo2 | exact (congrArg (· == true) heo).trans rfl | exact (congrArg (· == true) heo2).trans rfl) hK | exact uc t rfl hos rfl hK | exact uc t rfl hrs rfl hK | exact qm (jA pR (wS pA rfl rfl) hgd hK) | (refine qa rfl ?_;(conv=>whnf);exact hK))))) ?_)));conv=>whnf)
    ·exact ⟨yp os oc rows cc player (.fn (.func ga) [] [.vp [.int .u64 ((y:Nat):Int)] 0]) x,[some _],rfl,rfl,zA pM pA,⟨⟨t + 1,j,e5,by omega,hstay hpl2⟩,rfl⟩⟩
    ·obtain ⟨f',rfl,hx2,ho2,hX2⟩:=hnext hpl2
     refine Or.inl ⟨by decide +kernel,?_⟩
     conv=>whnf
     repeat ((first | (refine ⟨_,_,fun K hK=>(by (conv=>whnf);first | (rw [zx x t hx (by omega)];exact hK) | exact hK | exact za rfl hK | exact And.intro (Int.natCast_nonneg _) hK | (refine qa rfl ?_;(conv=>whnf);exact hK)),?_⟩;first | refine Or.inl ⟨rfl,(by repeat' (first | exact True.intro | refine And.intro ?_ ?_ | exact Or.inl (by decide +kernel) | decide +kernel | exact Or.inr (fun K hK=>(by (conv=>whnf);first | (rw [zx x t hx (by omega)];exact hK) | exact hK | exact za rfl hK | exact And.intro (Int.natCast_nonneg _) hK | (refine qa rfl ?_;(conv=>whnf);exact hK))))),?_⟩ | refine Or.inr (zo (by repeat' (first | exact True.intro | refine And.intro ?_ ?_ | exact Or.inl (by decide +kernel) | decide +kernel | exact Or.inr (fun K hK=>(by (conv=>whnf);first | (rw [zx x t hx (by omega)];exact hK) | exact hK | exact za rfl hK | exact And.intro (Int.natCast_nonneg _) hK | (refine qa rfl ?_;(conv=>whnf);exact hK))))) ?_)));conv=>whnf)
     exact ⟨yp os oc rows cc player (.fn (.func ga) [] [.vp [.int .u64 ((y:Nat):Int)] 0]) (x ||| 2 ^ t),[some _],rfl,rfl,zA pM pA,rfl,rfl,(f',x ||| 2 ^ t),Nat.lt_succ_self _,⟨hx2,ho2,hX2⟩,1,rfl,yY rfl ⟨rfl,rfl,rfl,rfl,trivial⟩⟩
  ·rintro B ⟨⟨s,k,hvs,hsk,hfs⟩,rfl⟩ -
   have hno:jm (fun s => !x.testBit s && wd os rows φ player x s) 0 os.length=none:=hfs.trans (uaJ (fun t h1=>hpy t (by omega)) hvs.symm)
   rw [jbm hno] at hX
   subst hX
   conv=>whnf
   repeat ((first | refine za rfl ?_ | refine And.intro rfl ?_);conv=>whnf)
   exact .pure _ (.int _ _)
end
end Go.Abs

namespace Go.Abs
noncomputable section
def Sub (a b:Nat):Prop:=∀ i,a.testBit i=true→b.testBit i=true
theorem Sub.rfl' {a:Nat}:Sub a a:=fun _ h=>h
theorem Sub.trans {a b c:Nat} (h:Sub a b) (h':Sub b c):Sub a c:=fun i hi=>h' i (h i hi)
theorem Sub.le {a b:Nat} (h:Sub a b):a≤b:=by
 have:a &&& b=a:=Nat.eq_of_testBit_eq fun i=>by
  rw [Nat.testBit_and]
  cases ha:a.testBit i with
  | false=>rfl
  | true=>rw [h i ha];rfl
 rw [← this];exact Nat.and_le_right
theorem Sub.anti {a b:Nat} (h:Sub a b) (h':Sub b a):a=b:=Nat.eq_of_testBit_eq fun i=>by
 cases ha:a.testBit i with
 | true=>exact (h i ha).symm
 | false=>cases hb:b.testBit i with
  | false=>rfl
  | true=>rw [h' i hb] at ha;cases ha
theorem sub_add {x t:Nat}:Sub x (x ||| 2 ^ t):=fun i h=>by rw [jL,h];rfl
def uaX (pl:Nat→Nat→Bool):Prop:=∀ a b s,Sub a b→pl a s=true→pl b s=true
theorem xas {n:Nat} {pl:Nat→Nat→Bool}:∀ (f x:Nat),Sub x (wg n pl f x)
 | 0,_=>Sub.rfl'
 | f + 1,x=>by
  unfold wg
  split
  ·exact Sub.rfl'
  ·exact sub_add.trans (xas f _)
theorem was {n:Nat} {pl:Nat→Nat→Bool}:∀ (f x:Nat),yk x 0 n≤f→∀ s,s < n→pl (wg n pl f x) s=true→(wg n pl f x).testBit s=true
 | f,x,hf,s,hs,hp=>by
  cases hb:jm (fun s => !x.testBit s && pl x s) 0 n with
  | none =>
   have e:wg n pl f x=x:=by
    cases f with
    | zero=>rfl
    | succ f=>conv=>lhs;unfold wg
              rw [hb]
   rw [e] at hp ⊢
   have:=wbp hb s (Nat.zero_le _) (by omega)
   rw [hp] at this
   simpa using this
  | some t =>
   obtain ⟨_,h2,h3⟩:=yaf hb
   have htb:x.testBit t=false:=by
    cases h:x.testBit t with
    | false=>rfl
    | true=>rw [h] at h3;simp at h3
   have o1:=qan htb (k:=n) (s:=0) (Nat.zero_le _) h2
   have o2:=gan x t htb n 0
   rw [if_pos ⟨Nat.zero_le _,h2⟩] at o2
   cases f with
   | zero=>omega
   | succ f =>
    have e:wg n pl (f + 1) x=wg n pl f (x ||| 2 ^ t):=by
     conv=>lhs;unfold wg
     rw [hb]
    rw [e] at hp ⊢
    exact was f _ (by omega) s hs hp
theorem gbm {n:Nat} {pl:Nat→Nat→Bool} (hm:uaX pl) {Y:Nat} (hc:∀ s,s < n→pl Y s=true→Y.testBit s=true):∀ (f x:Nat),Sub x Y→Sub (wg n pl f x) Y
 | 0,_,h=>h
 | f + 1,x,h=>by
  unfold wg
  split
  ·exact h
  ·rename_i t ht
   obtain ⟨_,h2,h3⟩:=yaf ht
   refine gbm hm hc f _ fun i hi => ?_
   rw [jL] at hi
   cases hx:x.testBit i with
   | true=>exact h i hx
   | false =>
    rw [hx] at hi
    obtain rfl:t=i:=by simpa using hi
    refine hc t (by omega) (hm x Y t h ?_)
    rw [hx] at h3;simpa using h3
theorem qbm {n:Nat} {pl pl':Nat→Nat→Bool} (hm:uaX pl) (hpp:∀ x s,pl x s=true→pl' x s=true) {x y:Nat} (hxy:Sub x y):Sub (wg n pl n x) (wg n pl' n y) :=
 gbm hm (fun s hs hp=>was n y (uQ _ _ _) s hs (hpp _ _ hp)) n x (hxy.trans (xas n y))
theorem vaO {n:Nat} {pl:Nat→Nat→Bool}:∀ (f x:Nat),Sub x (qb n)→Sub (wg n pl f x) (qb n)
 | 0,_,h=>h
 | f + 1,x,h=>by
  unfold wg
  split
  ·exact h
  ·rename_i t ht
   obtain ⟨_,h2,_⟩:=yaf ht
   refine vaO f _ fun i hi => ?_
   rw [jL] at hi
   cases hx:x.testBit i with
   | true=>exact h i hx
   | false =>
    rw [hx] at hi
    obtain rfl:t=i:=by simpa using hi
    rw [y8];simp;omega
theorem jbC {a b:Nat} (h:Sub a b) {ch:List AV} (ht:jg a ch=true):jg b ch=true:=by
 unfold jg at *
 rw [List.any_eq_true] at *
 obtain ⟨t,h1,h2⟩:=ht
 exact ⟨t,h1,h t h2⟩
theorem wbF {a b:Nat} (h:Sub a b) {ch:List AV} (ht:wn a ch=true):wn b ch=true:=by
 unfold wn at *
 cases hb:(yE ch).any fun t => !b.testBit t with
 | false=>rfl
 | true =>
  rw [List.any_eq_true] at hb
  obtain ⟨t,h1,h2⟩:=hb
  have:((yE ch).any fun t => !a.testBit t)=true:=List.any_eq_true.2 ⟨t,h1,by
   cases ha:a.testBit t with
   | false=>rfl
   | true=>rw [h t ha] at h2;cases h2⟩
  rw [this] at ht;cases ht
theorem wa8 {os:List Nat} {rows:List ChR} {φ φ':List AV→Bool} {player a b s:Nat} (hφ:∀ ch,φ ch=true→φ' ch=true) (h:Sub a b) (hp:wd os rows φ player a s=true):wd os rows φ' player b s=true:=by
 have key:∀ ch,(φ ch && jg a ch)=true→(φ' ch && jg b ch)=true:=fun ch hc=>by
  rw [Bool.and_eq_true] at *
  exact ⟨hφ ch hc.1,jbC h hc.2⟩
 unfold wd at *
 split at hp
 ·rename_i ho
  rw [if_pos ho]
  rw [List.any_eq_true] at *
  obtain ⟨ch,h1,h2⟩:=hp
  exact ⟨ch,h1,key ch h2⟩
 ·rename_i ho
  rw [if_neg ho]
  cases hb:(vk rows s).any fun ch => !(φ' ch && jg b ch) with
  | false=>rfl
  | true =>
   rw [List.any_eq_true] at hb
   obtain ⟨ch,h1,h2⟩:=hb
   have:((vk rows s).any fun ch => !(φ ch && jg a ch))=true:=List.any_eq_true.2 ⟨ch,h1,by
    cases hk:(φ ch && jg a ch) with
    | false=>rfl
    | true=>rw [key ch hk] at h2;cases h2⟩
   rw [this] at hp;cases hp
theorem xa8 {os:List Nat} {rows:List ChR} {φ:List AV→Bool} {player:Nat}:uaX (wd os rows φ player):=fun _ _ _ h hp=>wa8 (fun _ h=>h) h hp
def ql (os:List Nat) (rows:List ChR) (player target:Nat):Nat:=wg os.length (wd os rows (fun _=>true) player) os.length target
def xt (os:List Nat) (rows:List ChR) (player target x:Nat):Nat:=wg os.length (wd os rows (wn x) player) os.length target
def yA (F:Nat→Nat):Nat→Nat→Nat
 | 0,x=>x
 | f + 1,x=>if F x=x then x else yA F f (F x)
theorem jaP {F:Nat→Nat} {x:Nat} (h:F x=x):∀ f,yA F f x=x
 | 0=>rfl
 | f + 1=>if_pos h
theorem uaP {F:Nat→Nat} {x f:Nat} (h:F x≠x):yA F (f + 1) x=yA F f (F x):=if_neg h
def uj (os:List Nat) (rows:List ChR) (player target:Nat):Nat:=yA (xt os rows player target) (qb os.length) (qb os.length)
section fix
variable {F:Nat→Nat} (hm:∀ a b,Sub a b→Sub (F a) (F b))
include hm
theorem zbp:∀ (f x:Nat),x≤f→Sub (F x) x→F (yA F f x)=yA F f x∧Sub (yA F f x) x∧∀ Y,Sub Y x→Sub Y (F Y)→Sub Y (yA F f x)
 | 0,x,h,hs=>by
  obtain rfl:x=0:=by omega
  have:=hs.le
  refine ⟨?_,Sub.rfl',fun Y h _=>h⟩
  show F 0=0
  omega
 | f + 1,x,h,hs=>by
  by_cases e:F x=x
  ·rw [jaP e]
   exact ⟨e,Sub.rfl',fun Y h _=>h⟩
  ·rw [uaP e]
   have:=hs.le
   obtain ⟨h1,h2,h3⟩:=zbp f (F x) (by omega) (hm _ _ hs)
   exact ⟨h1,h2.trans hs,fun Y hY hF=>h3 Y (hF.trans (hm _ _ hY)) hF⟩
end fix
theorem gaA {os:List Nat} {rows:List ChR} {player target a b:Nat} (h:Sub a b):Sub (xt os rows player target a) (xt os rows player target b):=by
 unfold xt
 exact qbm (pl:=wd os rows (wn a) player) (pl':=wd os rows (wn b) player) xa8 (fun x s hp=>wa8 (φ:=wn a) (φ':=wn b) (fun ch hc=>wbF h hc) (Sub.rfl' (a:=x)) hp) Sub.rfl'
theorem wal {os:List Nat} {rows:List ChR} {player target x:Nat} (h:Sub target (qb os.length)):Sub (xt os rows player target x) (qb os.length):=vaO _ _ h
theorem xal {os:List Nat} {rows:List ChR} {player target:Nat} (h:Sub target (qb os.length)) :
  xt os rows player target (uj os rows player target)=uj os rows player target∧∀ Y,Sub Y (qb os.length)→Sub Y (xt os rows player target Y)→Sub Y (uj os rows player target):=by
 obtain ⟨h1,_,h3⟩:=zbp (F:=xt os rows player target) (fun _ _=>gaA) _ (qb os.length) (Nat.le_refl _) (wal h)
 exact ⟨h1,h3⟩
theorem xa2 {os:List Nat} {rows:List ChR} {player target:Nat} (h:Sub target (qb os.length)):Sub (uj os rows player target) (qb os.length):=by
 rw [← (xal h).1];exact wal h
end
end Go.Abs

namespace Go.Abs
noncomputable section
open Go.Proofs
theorem jN {os:List Nat} {rows:List ChR} (hV:ValidM os rows):qaX os rows where
 states:=by have:=hV.states;omega
 width:=hV.width
 count:=hV.chs
 cells:=by
  obtain ⟨D,hD,hb⟩:=hV.branches
  have key:∀ (rows:List ChR) (s:Nat),(∀ v∈jp s rows,gai os.length D v)→∀ r∈rows,∀ ch∈r.1,∃ t:Int,gai os.length D [.int .i64 t,.agg ch]:=fun rows=>by
   induction rows with
   | nil=>intro s _ r hr;cases hr
   | cons r0 rest ih =>
    intro s hv r hr ch hch
    rcases List.mem_cons.1 hr with rfl | hr
    ·exact ⟨((s:Nat):Int),hv _ (List.mem_append_left _ (List.mem_map.2 ⟨ch,hch,rfl⟩))⟩
    ·exact ih (s + 1) (fun v h=>hv v (List.mem_append_right _ h)) r hr ch hch
  intro r hr ch hch
  obtain ⟨t,s,a,g,l,c,e,hs⟩:=key rows 0 hb r hr ch hch
  injection e with _ e;injection e with e _;injection e with e
  have:=hV.states
  exact ⟨l,⟨a,g,c,e⟩,hs.len,fun b hb=>by have:=hs.lt b hb;omega⟩
theorem yca {x n:Nat} (h:Sub x (qb n)):wk x (qb n)=0:=Nat.eq_of_testBit_eq fun i=>by
 rw [Nat.zero_testBit]
 rcases Nat.lt_or_ge i 64 with hi | hi
 ·rw [yav _ _ _ hi]
  cases hx:x.testBit i with
  | false=>rfl
  | true=>rw [h i hx];rfl
 ·exact Nat.testBit_lt_two_pow (Nat.lt_of_lt_of_le (wag _ _) (Nat.pow_le_pow_right (by decide:0 < 2) hi:2 ^ 64≤2 ^ i))
set_option maxHeartbeats 1000000 in
theorem jaQ {os:List Nat} {oc cc:Option Nat} {rows:List ChR} {target player:Nat} (hV:ValidM os rows) (pM:Pure (.agg [.vs (osV os) oc,.vs (ja rows) cc])) (hs:Sub target (qb os.length)) (hp:player=0∨player=1) :
  zb Tryz.prog 22 [.agg [.vs (osV os) oc,.vs (ja rows) cc],.int .u64 ((target:Nat):Int),.int .i64 ((player:Nat):Int)] (.int .i64 0):=by
 have hall:=vai (oc:=oc) (cc:=cc) pM (jN hV).states
 have hck:=qbt (oc:=oc) (cc:=cc) hV
 have hz:=yca hs
 refine yc (wo pM (.int _ _) (.int _ _)) (.int _ _) (jb xh mixed Tryz.func22 rfl (by decide +kernel) ?_)
 conv=>whnf
 repeat ((first | refine And.intro ⟨rfl,by decide,rfl⟩ ?_ | refine za rfl ?_ | refine And.intro rfl ?_ | refine wa hck (vb pM) ?_ | refine ya rfl ?_);conv=>whnf)
 rcases hp with rfl | rfl
 all_goals
  repeat ((first | refine za rfl ?_ | refine And.intro rfl ?_ | refine wa hall (vb pM) ?_ | refine ya rfl ?_ | refine ua rfl ?_ | refine ya (by rw [wD,hz];rfl) ?_ | refine ua (by rw [wD,hz];rfl) ?_);conv=>whnf)
 all_goals exact .pure _ (.int _ _)
theorem jE {x y:AV} (h:Pure x) (h':Pure y):Pure (.tup [x,y]):=.tup _ fun i hi=>by
 match i,hi with
 | 0,_=>exact h
 | 1,_=>exact h'
theorem ych {os:List Nat} {rows:List ChR} (hV:ValidM os rows):∀ r∈rows,∀ ch∈r.1,zb Tryz.prog 24 [.agg ch] (.bool ((fun _=>true) ch)):=fun r hr ch hch=>by
 obtain ⟨l,h,_⟩:=(jN hV).cells r hr ch hch
 exact xbA h
theorem xch {os:List Nat} {rows:List ChR} {x:Nat} (hV:ValidM os rows):∀ r∈rows,∀ ch∈r.1,zb Tryz.prog 26 [.agg ch,.vp [.int .u64 ((x:Nat):Int)] 0] (.bool (wn x ch)):=fun r hr ch hch=>by
 obtain ⟨l,h,h1,h2⟩:=(jN hV).cells r hr ch hch
 rw [vbF h]
 exact xbF h h1 h2
theorem sub_lt {x n:Nat} (h:Sub x (qb n)) (hn:n < 64):x < 18446744073709551616:=Nat.lt_of_le_of_lt h.le (yax n hn)
set_option maxHeartbeats 1000000 in
theorem gaF {os:List Nat} {oc cc:Option Nat} {rows:List ChR} {target player:Nat} (hV:ValidM os rows) (pM:Pure (.agg [.vs (osV os) oc,.vs (ja rows) cc])) (hs:Sub target (qb os.length)) (hp:player=0∨player=1) :
  zb Tryz.prog 9 [.agg [.vs (osV os) oc,.vs (ja rows) cc],.int .u64 ((target:Nat):Int),.int .i64 ((player:Nat):Int)] (.tup [.int .u64 ((ql os rows player target:Nat):Int),.int .i64 0]):=by
 have hG:=jN hV
 have hck:=jaQ (oc:=oc) (cc:=cc) hV pM hs hp
 have hgr:=xb5 (oc:=oc) (cc:=cc) (player:=player) (target:=target) hG pM (sub_lt hs hG.states) (ych hV)
 have pF:Pure (.fn (.func 24) [] []):=qk (fun _ h=>by simp at h)
 refine yc (wo pM (.int _ _) (.int _ _)) (jE (.int _ _) (.int _ _)) (jb xh mixed Tryz.func9 rfl (by decide +kernel) ?_)
 conv=>whnf
 repeat ((first | refine And.intro ⟨rfl,by decide,rfl⟩ ?_ | refine za rfl ?_ | refine And.intro rfl ?_ | refine wa hck (wo pM (.int _ _) (.int _ _)) ?_ | refine wa hgr (waF pM (.int _ _) (.int _ _) pF) ?_ | refine ya rfl ?_);conv=>whnf)
 exact .pure _ (jE (.int _ _) (.int _ _))
set_option maxHeartbeats 1000000 in
theorem vbx {os:List Nat} {oc cc:Option Nat} {rows:List ChR} {target player:Nat} (hV:ValidM os rows) (pM:Pure (.agg [.vs (osV os) oc,.vs (ja rows) cc])) (hs:Sub target (qb os.length)) (hp:player=0∨player=1) :
  zb Tryz.prog 11 [.agg [.vs (osV os) oc,.vs (ja rows) cc],.int .u64 ((target:Nat):Int),.int .i64 ((player:Nat):Int)] (.tup [.int .u64 ((wk (qb os.length) (ql os rows (1 - player) target):Nat):Int),.int .i64 0]):=by
 have hG:=jN hV
 have hck:=jaQ (oc:=oc) (cc:=cc) hV pM hs hp
 have hall:=vai (oc:=oc) (cc:=cc) pM (jN hV).states
 have hpo:=gaF (oc:=oc) (cc:=cc) (player:=1 - player) hV pM hs (by omega)
 refine yc (wo pM (.int _ _) (.int _ _)) (jE (.int _ _) (.int _ _)) (jb xh mixed Tryz.func11 rfl (by decide +kernel) ?_)
 conv=>whnf
 rcases hp with rfl | rfl
 all_goals
  repeat ((first | refine And.intro ⟨rfl,by decide,rfl⟩ ?_ | refine za rfl ?_ | refine And.intro rfl (zi 1 rfl rfl ?_) | refine And.intro rfl (zi 0 rfl rfl ?_) | refine And.intro rfl ?_ | refine wa hck (wo pM (.int _ _) (.int _ _)) ?_ | refine wa hall (vb pM) ?_ | refine wa hpo (wo pM (.int _ _) (.int _ _)) ?_ | refine ya rfl ?_);conv=>whnf)
  rw [wD]
  exact .pure _ (jE (.int _ _) (.int _ _))
theorem vb6 {f41:FuncId} {x:Nat} {h:Heap} (h2:h.blk? 1=some (.rows [[.int .u64 ((x:Nat):Int)]] false false)) :
  Frz h (.fn (.func f41) [] [.ptr 1 0 0]) (.fn (.func f41) [] [.vp [.int .u64 ((x:Nat):Int)] 0]):=by
 refine .fn _ _ _ _ _ rfl rfl (fun i hi=>by simp at hi) fun i hi hj => ?_
 match i,hi with
 | 0,_=>exact .ptr 1 0 0 [[_]] false false _ h2 (by simp) rfl fun t h1 h2=>(match t,h1 with | 0,_=>.pure _ (.int _ _))
theorem jce {f44:FuncId} {V V1 V2 F F':AV} {h:Heap} {k:IntKind} {b:Int} {K:AV→Heap→Prop} (pV:Pure V) (pV1:Pure V1) (pV2:Pure V2) (hF:Frz h F F') (hp:zb Tryz.prog f44 [V,V1,V2,F'] (.int k b)) (hk:K (.int k b) h):CallSem Tryz.prog f44 [V,V1,V2,F] h K:=by
 refine qav (args':=[V,V1,V2,F']) rfl (fun i hi hj => ?_) hp (.int _ _) hk
 match i,hi with
 | 0,_=>exact .pure _ pV
 | 1,_=>exact .pure _ pV1
 | 2,_=>exact .pure _ pV2
 | 3,_=>exact hF
set_option maxHeartbeats 2000000 in
theorem ya2 {os:List Nat} {oc cc:Option Nat} {rows:List ChR} {target player:Nat} (hV:ValidM os rows) (pM:Pure (.agg [.vs (osV os) oc,.vs (ja rows) cc])) (hs:Sub target (qb os.length)) (hp:player=0∨player=1) :
  zb Tryz.prog 10 [.agg [.vs (osV os) oc,.vs (ja rows) cc],.int .u64 ((target:Nat):Int),.int .i64 ((player:Nat):Int)] (.tup [.int .u64 ((uj os rows player target:Nat):Int),.int .i64 0]):=by
 have hG:=jN hV
 have hck:=jaQ (oc:=oc) (cc:=cc) hV pM hs hp
 have hall:=vai (oc:=oc) (cc:=cc) pM (jN hV).states
 have pF:∀ x:Nat,Pure (.fn (.func 26) [] [.vp [.int .u64 ((x:Nat):Int)] 0]):=fun x=>qk (vb (jk x))
 refine yc (wo pM (.int _ _) (.int _ _)) (jE (.int _ _) (.int _ _)) (jb xh mixed Tryz.func10 rfl (by decide +kernel) ?_)
 conv=>whnf
 repeat ((first | refine And.intro ⟨rfl,by decide,rfl⟩ ?_ | refine And.intro ⟨by decide,rfl⟩ ?_ | refine za rfl ?_ | refine And.intro rfl ?_ | refine wa hck (wo pM (.int _ _) (.int _ _)) ?_ | refine wa hall (vb pM) ?_ | refine ya rfl ?_ | refine qa rfl ?_);conv=>whnf)
 refine gf xh mixed 30 (fun x:Nat=>x) (fun x=>Sub x (qb os.length)∧Sub (xt os rows player target x) x∧∃ f,x≤f∧yA (xt os rows player target) f x=uj os rows player target)
  (fun _=>[(1,.int .u64 ((target:Nat):Int)),(2,.int .i64 ((player:Nat):Int)),(3,.ptr 0 0 0),(9,.ptr 1 0 0)])
  (fun x=>⟨[some (.rows [[.vs (osV os) oc,.vs (ja rows) cc]] false false),some (.rows [[.int .u64 ((x:Nat):Int)]] false false)],[]⟩) ?_ (qb os.length) _ ⟨Sub.rfl',wal hs,_,Nat.le_refl _,rfl⟩ rfl rfl ⟨rfl,rfl,rfl,rfl,trivial⟩
 rintro x g ⟨h1,h2,f,h3,h4⟩
 replace h1:Sub x (qb os.length):=h1
 have hgr:=yb5 (oc:=oc) (cc:=cc) (player:=player) (target:=target) (y:=x) (φ:=wn x) hG pM (sub_lt hs hG.states) (xch hV)
 replace hgr:zb Tryz.prog _ _ (.int .u64 ((xt os rows player target x:Nat):Int)):=hgr
 generalize hy:xt os rows player target x=y at hgr h2
 conv=>whnf
 repeat ((first | refine And.intro ⟨rfl,by decide,rfl⟩ ?_ | refine And.intro ⟨by decide,rfl⟩ ?_ | refine za rfl ?_ | refine And.intro rfl ?_ | refine qm (jce pM (.int _ _) (.int _ _) (vb6 rfl) hgr ?_));conv=>whnf)
 by_cases hxy:y=x
 ·subst hxy
  have hr:y=uj os rows player target:=by rw [← h4];exact (jaP hy f).symm
  refine ua (by simp) ?_
  conv=>whnf
  repeat ((first | refine za rfl ?_ | refine And.intro rfl ?_);conv=>whnf)
  rw [← hr]
  exact .pure _ (jE (.int _ _) (.int _ _))
 ·refine ya (beq_eq_false_iff_ne.2 fun e=>hxy (by omega)) ?_
  conv=>whnf
  repeat ((first | refine za rfl ?_ | refine qa rfl ?_ | refine And.intro rfl ?_);conv=>whnf)
  have:=h2.le
  have hne:xt os rows player target x≠x:=by rw [hy];exact hxy
  obtain ⟨f',rfl⟩:∃ f',f=f' + 1:=⟨f - 1,by omega⟩
  refine ⟨y,by omega,⟨h2.trans h1,?_,f',by omega,?_⟩,rfl,rfl,rfl,rfl,rfl,rfl,trivial⟩
  ·have:=gaA (os:=os) (rows:=rows) (player:=player) (target:=target) h2
   rw [hy] at this;exact this
  ·rw [uaP hne,hy] at h4;exact h4
end
end Go.Abs

namespace Go.Abs
noncomputable section
open Go.Proofs
set_option maxRecDepth 100000
theorem ua2 {W M:Nat}:∀ (l:List Br),(∀ b∈l,b.d∣W)→(∀ b∈l,b.d∣M)→xf W l * M=xf M l * W
 | [],_,_=>by simp [xf]
 | b :: l,h,h'=>by
  have ih:=ua2 l (fun x hx=>h x (List.mem_cons_of_mem _ hx)) (fun x hx=>h' x (List.mem_cons_of_mem _ hx))
  have e:∀ M,xf M (b :: l)=b.n * (M / b.d) + xf M l:=fun M=>by simp [xf]
  rw [e,e,Nat.add_mul,Nat.add_mul,ih]
  congr 1
  have e1:=Nat.mul_div_cancel' (h b (List.mem_cons_self ..))
  have e2:=Nat.mul_div_cancel' (h' b (List.mem_cons_self ..))
  generalize hw:W / b.d=w at *
  generalize hm:M / b.d=m at *
  rw [← e1,← e2]
  ac_rfl
theorem jbH {N W:Nat} {l:List Br} (h:BrsOK N W l) (hd:∀ b∈l,b.d∣300) (hN:N≤12):xax N 300 l where
 ok b hb:=by
  obtain ⟨h1,h2,h3,h4⟩:=h.ok b hb
  obtain ⟨f1,f2,f3,_⟩:=zaf h2
  refine ⟨?_,h3,f2,hd b hb⟩
  have:=qa2 h2
  rw [h1];exact this
 inc:=h.inc
 lt:=h.lt
 sum M hM hall:=by
  have hW:=h.whole.1
  have:=ua2 l (fun b hb=>(h.ok b hb).2.2.2) hall
  rw [h.sum,Nat.mul_comm] at this
  exact (Nat.eq_of_mul_eq_mul_right hW this).symm
 len:=by have:=h.len;omega
theorem qaw {v:List AV}:∀ {rows:List ChR} {s:Nat},v∈jp s rows→∃ t r ch,r∈rows∧ch∈r.1∧v=[.int .i64 ((t:Nat):Int),.agg ch]
 | [],_,h=>by cases h
 | r :: rest,s,h=>by
  rcases List.mem_append.1 h with h | h
  ·obtain ⟨ch,hc,rfl⟩:=List.mem_map.1 h
   exact ⟨s,r,ch,List.mem_cons_self ..,hc,rfl⟩
  ·obtain ⟨t,r',ch,h1,h2,h3⟩:=qaw h
   exact ⟨t,r',ch,List.mem_cons_of_mem _ h1,h2,h3⟩
theorem ModOK.cho {os:List Nat} {rows:List (List Ch × Option Nat)} (h:ModOK os rows) {r:ChR} {ch:List AV} (hr:r∈yb rows) (hc:ch∈r.1):∃ x,ch=chV x∧wB os.length x:=by
 obtain ⟨r0,h0,rfl⟩:=List.mem_map.1 hr
 obtain ⟨x,hx,rfl⟩:=List.mem_map.1 hc
 exact ⟨x,rfl,h.chs r0 h0 x hx⟩
theorem zay {os:List Nat} {rows:List (List Ch × Option Nat)} (h:ModOK os rows):ValidM os (yb rows) where
 states:=h.states
 owners:=h.owners
 width:=by simp [yb,h.width]
 count r hr:=by
  obtain ⟨r0,h0,rfl⟩:=List.mem_map.1 hr
  have:=h.count r0 h0
  simpa using this
 names v hv:=by
  obtain ⟨t,r,ch,hr,hc,rfl⟩:=qaw hv
  obtain ⟨x,rfl,hx⟩:=h.cho hr hc
  exact ⟨_,x.a,qt x.n x.d,x.l.map brV,x.c,rfl,jci hx.name.2 hx.name.1,xah _⟩
 gains:=⟨300,by decide,fun v hv=>by
  obtain ⟨t,r,ch,hr,hc,rfl⟩:=qaw hv
  obtain ⟨x,rfl,hx⟩:=h.cho hr hc
  obtain ⟨f1,f2,f3,_⟩:=zaf hx.gain
  exact ⟨_,x.a,qt x.n x.d,x.l.map brV,x.c,x.n,x.d,rfl,qa2 hx.gain,f2,hx.dvd,xah _⟩⟩
 branches:=⟨300,by decide,fun v hv=>by
  obtain ⟨t,r,ch,hr,hc,rfl⟩:=qaw hv
  obtain ⟨x,rfl,hx⟩:=h.cho hr hc
  exact ⟨_,x.a,qt x.n x.d,x.l,x.c,rfl,jbH hx.brs hx.dvds h.states.2⟩⟩
 cells r hr ch hc:=by
  obtain ⟨x,rfl,hx⟩:=h.cho hr hc
  exact ⟨x.a,qt x.n x.d,x.l.map brV,x.c,rfl,xah _⟩
theorem Dr.os_len (d:Dr):d.os.length=d.n:=by simp [Dr.os]
theorem Dr.os01 (d:Dr):∀ o∈d.os,o=0∨o=1:=fun o ho=>by
 obtain ⟨s,_,rfl⟩:=List.mem_map.1 ho
 unfold Dr.own
 split
 ·exact .inr rfl
 ·exact .inl rfl
theorem Dr.row_ok (d:Dr) {s:Nat} (hs:s < d.n):1≤(d.row s).1.length∧(d.row s).1.length≤4∧∀ x∈(d.row s).1,wB d.n x:=by
 have hz:qK d.n d.m:=d.ms_ok _ (Nat.min_le_left _ _)
 have hl:=hz.len s
 have hc:=hz.chs s
 unfold Dr.row
 split
 ·exact ⟨by simp,by simp,fun x hx=>by rw [List.mem_singleton.1 hx];exact ubF hs⟩
 ·rename_i c l hr
  rw [hr] at hl hc
  exact ⟨by simp,by simp only [List.length_cons] at *;omega,hc⟩
theorem Dr.model_ok (d:Dr):ModOK d.os d.rows where
 states:=by rw [d.os_len];have:=d.n_pos;have:=d.n_le;omega
 owners:=d.os01
 width:=by simp [Dr.rows,d.os_len]
 count r hr:=by
  obtain ⟨s,hs,rfl⟩:=List.mem_map.1 hr
  have:=d.row_ok (List.mem_range.1 hs)
  omega
 chs r hr x hx:=by
  obtain ⟨s,hs,rfl⟩:=List.mem_map.1 hr
  rw [d.os_len]
  exact (d.row_ok (List.mem_range.1 hs)).2.2 x hx
end
end Go.Abs

namespace Go.Abs
noncomputable section
open Go.Proofs
set_option maxRecDepth 100000
theorem zcc {l:List Nat} {kc:Option Nat} (h1:1≤l.length) (h2:l.length≤12):zb Tryz.prog 68 [.vs (osV l) kc] (.vs (osV l) none):=by
 have hl:(osV l).length=l.length:=by simp [osV]
 refine yc (vb (wi l kc)) (wi l none) (jb jd mixed Tryz.func68 rfl (by decide +kernel) ?_)
 conv=>whnf
 refine Or.inl ?_
 conv=>whnf
 repeat ((first | refine ⟨by decide,by decide,rfl,?_⟩ | refine ya rfl ?_ | refine Or.inr ?_ | refine And.intro rfl ?_);conv=>whnf)
 refine And.intro ⟨rfl,trivial⟩ ?_
 conv=>whnf
 rw [y3]
 conv=>whnf
 refine And.intro ⟨rfl,trivial⟩ (waW rfl rfl (by decide) (gba l) ⟨by omega,by rw [hl];show l.length * 8≤_;omega⟩ ?_)
 rw [hl]
 conv=>whnf
 repeat ((first | refine And.intro rfl ?_);conv=>whnf)
 exact gN rfl yC hl
theorem ycc {l:List Br} {kc:Option Nat} (h1:1≤l.length) (h2:l.length≤12):zb Tryz.prog 70 [.vs (l.map brV) kc] (.vs (l.map brV) none):=by
 have hl:(l.map brV).length=l.length:=by simp
 refine yc (vb (xW l kc)) (xW l none) (jb jd mixed Tryz.func70 rfl (by decide +kernel) ?_)
 conv=>whnf
 refine Or.inl ?_
 conv=>whnf
 repeat ((first | refine ⟨by decide,by decide,rfl,?_⟩ | refine ya rfl ?_ | refine Or.inr ?_ | refine And.intro rfl ?_);conv=>whnf)
 refine And.intro ⟨rfl,trivial⟩ ?_
 conv=>whnf
 rw [y3]
 conv=>whnf
 refine And.intro ⟨rfl,trivial⟩ (waW rfl rfl (by decide) (yaw l) ⟨by omega,by rw [hl];show l.length * 24≤_;omega⟩ ?_)
 rw [hl]
 conv=>whnf
 repeat ((first | refine And.intro rfl ?_);conv=>whnf)
 exact gN rfl (xah l) hl
set_option maxHeartbeats 4000000 in
theorem qbE {os:List Nat} {oc cc kc:Option Nat} {rows:List (List Ch × Option Nat)} {c:List Nat} (h:ModOK os rows) (hc:c.length=os.length) (hlt:∀ s (h1:s < c.length) (h2:s < rows.length),c[s] < rows[s].1.length) :
  zb Tryz.prog 50 [.agg (ye os oc rows cc),.vs (osV c) kc] (.int .i64 0):=by
 have hs0:=h.states
 have hw:=h.width
 have hlc:(osV c).length=os.length:=by simp [osV,hc]
 have hlr:(ja (yb rows)).length=os.length:=by simp [ja,yb,hw]
 have hck:zb Tryz.prog 39 [.agg (ye os oc rows cc)] (.int .i64 0):=qbt (zay h)
 have b0:(((os.length:Nat):Int) != ((os.length:Nat):Int))=false:=by simp
 refine yc (wb (zk ..) (wi c kc)) (.int _ _) (jb jd mixed Tryz.func50 rfl (by decide +kernel) ?_)
 conv=>whnf
 repeat ((first | refine And.intro ⟨rfl,by decide,rfl⟩ ?_ | refine za rfl ?_ | refine wa hck (vb (zk ..)) ?_ | refine qc hlc ?_ | refine qc hlr ?_ | refine ya b0 ?_ | refine ya rfl ?_ | refine And.intro rfl ?_);conv=>whnf)
 refine gf jd mixed 42 (fun s:Nat=>os.length - s) (fun s=>s≤os.length)
  (fun s=>[(1,.vs (osV c) kc),(20,.vs (ja (yb rows)) cc),(21,.int .i64 ((os.length:Nat):Int)),(22,.int .i64 ((s:Nat):Int))]) (fun _=>⟨[some (.rows [ye os oc rows cc] false false)],[]⟩) ?_ 0 _ (Nat.zero_le _) rfl rfl ⟨rfl,rfl,rfl,rfl,trivial⟩
 rintro s g1 i1
 replace i1:s≤os.length:=i1
 conv=>whnf
 refine yf (fun h4 => ?_) (fun h4 => ?_) <;> conv=>whnf
 ·have hs:s < os.length:=by have:((s:Nat):Int) < ((os.length:Nat):Int):=h4;omega
  have hs3:s < rows.length:=by omega
  have hsc:s < c.length:=by omega
  obtain ⟨r,hr⟩:∃ r,rows[s]=r:=⟨_,rfl⟩
  have hri:(ja (yb rows))[s]? = some [.vs (r.1.map chV) r.2]:=by simp [ja,yb,hs3,hr]
  have hrl:(r.1.map chV).length=r.1.length:=by simp
  have hcr:=h.count r (hr ▸ List.getElem_mem hs3)
  have hci:(osV c)[s]? = some [.int .i64 ((c[s]:Nat):Int)]:=uaH hsc
  have hcs:=hlt s hsc hs3
  rw [hr] at hcs
  have e1:¬ ((c[s]:Nat):Int) < 0:=by omega
  have e2:¬ ((c[s]:Nat):Int) ≥ ((r.1.length:Nat):Int):=by omega
  repeat ((first | refine uc s rfl hri rfl ?_ | refine uc s rfl hci rfl ?_ | refine za rfl ?_ | refine qc hrl ?_ | refine ua (by rw [decide_eq_false e1];rfl) ?_ | refine ya (decide_eq_false e1) ?_ | refine ya (decide_eq_false e2) ?_ | refine And.intro rfl (ub (by omega) ?_) | refine And.intro rfl ?_);conv=>whnf)
  refine ⟨s + 1,by show os.length - (s + 1) < os.length - s;omega,hs,rfl,rfl,rfl,rfl,rfl,?_,trivial⟩
  show some (AV.int .i64 _)=some (AV.int .i64 _)
  congr 2
 ·repeat ((first | refine And.intro rfl ?_);conv=>whnf)
  exact .pure _ (.int _ _)
end
end Go.Abs
