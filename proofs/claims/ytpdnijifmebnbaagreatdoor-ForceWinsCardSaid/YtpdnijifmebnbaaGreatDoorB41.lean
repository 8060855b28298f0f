/-
  Steps to a law of this program: SWn14.
  Conditions: none.
-/
import Derived.Test.YtpdnijifmebnbaaGreatDoorB39
import Derived.Test.YtpdnijifmebnbaaGreatDoorB38
import Derived.Test.YtpdnijifmebnbaaGreatDoorB17
import Derived.Test.YtpdnijifmebnbaaGreatDoorB40
set_option linter.unusedVariables false
set_option linter.unusedSimpArgs false
set_option linter.unusedSectionVars false
namespace Go.Abs
noncomputable section
open Go.Proofs
set_option maxRecDepth 100000
def yP:List (TypeId × TI):=[
 (24,{ desc:=(.struct #[{ name := "States",type:=5,offset:=0,embedded:=false,tag := "",pkgPath := "",byteOffset:=0 },{ name := "Owners",type:=5,offset:=1,embedded:=false,tag := "",pkgPath := "",byteOffset:=1 },{ name := "Grain",type:=5,offset:=2,embedded:=false,tag := "",pkgPath := "",byteOffset:=2 },{ name := "Cents",type:=5,offset:=3,embedded:=false,tag := "",pkgPath := "",byteOffset:=3 },{ name := "Picks",type:=22,offset:=4,embedded:=false,tag := "",pkgPath := "",byteOffset:=8 }]),size:=5,bytes:=32,zero:=[.int .u8 0,.int .u8 0,.int .u8 0,.int .u8 0,.nils],cmp:=true }),
 (4,{ desc:=.bool,size:=1,bytes:=1,zero:=[.bool false],cmp:=true }),
 (36,{ desc:=(.struct #[{ name := "Owner",type:=33,offset:=0,embedded:=false,tag := "",pkgPath := "",byteOffset:=0 },{ name := "Choices",type:=34,offset:=1,embedded:=false,tag := "",pkgPath := "",byteOffset:=24 }]),size:=2,bytes:=48,zero:=[.nils,.nils],cmp:=true }),
 (33,{ desc:=(.slice 3),size:=1,bytes:=24,zero:=[.nils],cmp:=true }),
 (41,{ desc:=(.array 3 29),size:=3,bytes:=24,zero:=[.int .u64 0,.int .u64 0,.int .u64 0],cmp:=true }),
 (43,{ desc:=(.int .i64),size:=1,bytes:=8,zero:=[.int .i64 0],cmp:=true }),
 (29,{ desc:=(.int .u64),size:=1,bytes:=8,zero:=[.int .u64 0],cmp:=true }),
 (3,{ desc:=(.int .i64),size:=1,bytes:=8,zero:=[.int .i64 0],cmp:=true }),
 (76,{ desc:=(.slice 41),size:=1,bytes:=24,zero:=[.nils],cmp:=true }),
 (5,{ desc:=(.int .u8),size:=1,bytes:=1,zero:=[.int .u8 0],cmp:=true }),
 (22,{ desc:=(.slice 60),size:=1,bytes:=24,zero:=[.nils],cmp:=true }),
 (34,{ desc:=(.slice 61),size:=1,bytes:=24,zero:=[.nils],cmp:=true }),
 (60,{ desc:=(.struct #[{ name := "State",type:=5,offset:=0,embedded:=false,tag := "",pkgPath := "",byteOffset:=0 },{ name := "Act",type:=5,offset:=1,embedded:=false,tag := "",pkgPath := "",byteOffset:=1 },{ name := "Gain",type:=5,offset:=2,embedded:=false,tag := "",pkgPath := "",byteOffset:=2 },{ name := "To",type:=57,offset:=3,embedded:=false,tag := "",pkgPath := "",byteOffset:=3 },{ name := "Part",type:=58,offset:=6,embedded:=false,tag := "",pkgPath := "",byteOffset:=6 }]),size:=8,bytes:=8,zero:=[.int .u8 0,.int .u8 0,.int .u8 0,.int .u8 0,.int .u8 0,.int .u8 0,.int .u8 0,.int .u8 0],cmp:=true }),
 (61,{ desc:=(.slice 64),size:=1,bytes:=24,zero:=[.nils],cmp:=true }),
 (57,{ desc:=(.array 3 5),size:=3,bytes:=3,zero:=[.int .u8 0,.int .u8 0,.int .u8 0],cmp:=true }),
 (58,{ desc:=(.array 2 5),size:=2,bytes:=2,zero:=[.int .u8 0,.int .u8 0],cmp:=true }),
 (64,{ desc:=(.struct #[{ name := "Act",type:=9,offset:=0,embedded:=false,tag := "",pkgPath := "",byteOffset:=0 },{ name := "Gain",type:=25,offset:=1,embedded:=false,tag := "",pkgPath := "",byteOffset:=16 },{ name := "Next",type:=62,offset:=2,embedded:=false,tag := "",pkgPath := "",byteOffset:=32 }]),size:=3,bytes:=56,zero:=[.str [],.str [],.nils],cmp:=true }),
 (9,{ desc:=.string,size:=1,bytes:=16,zero:=[.str []],cmp:=true }),
 (25,{ desc:=.string,size:=1,bytes:=16,zero:=[.str []],cmp:=true }),
 (62,{ desc:=(.slice 67),size:=1,bytes:=24,zero:=[.nils],cmp:=true }),
 (67,{ desc:=(.struct #[{ name := "To",type:=3,offset:=0,embedded:=false,tag := "",pkgPath := "",byteOffset:=0 },{ name := "P",type:=25,offset:=1,embedded:=false,tag := "",pkgPath := "",byteOffset:=8 }]),size:=2,bytes:=24,zero:=[.int .i64 0,.str []],cmp:=true })]
theorem vB:wc Tryz.prog (qv yP):=gak yP (by
 intro p hp
 simp only [yP,List.mem_cons,List.not_mem_nil,or_false] at hp
 rcases hp with rfl | rfl | rfl | rfl | rfl | rfl | rfl | rfl | rfl | rfl | rfl | rfl | rfl | rfl | rfl | rfl | rfl | rfl | rfl | rfl | rfl <;> kernel_rfl)
def ge (x y z:Nat):List AV:=[.int .u64 ((x:Nat):Int),.int .u64 ((y:Nat):Int),.int .u64 ((z:Nat):Int)]
def gm (a b c:Nat→Nat):Nat→List (List AV)
 | 0=>[]
 | k + 1=>gm a b c k ++ [ge (a k) (b k) (c k)]
def xq (f:Nat→Nat) (X:Nat):Nat→Bool
 | 0=>false
 | k + 1=>xq f X k || (((f k:Nat):Int) == ((X:Nat):Int))
theorem gar {f:Nat→Nat} {X:Nat}:∀ {K k:Nat},k < K→f k=X→xq f X K=true
 | K + 1,k,h,e=>by
  unfold xq
  rw [Bool.or_eq_true]
  rcases Nat.lt_or_ge k K with h' | h'
  ·exact .inl (gar h' e)
  ·obtain rfl:k=K:=by omega
   exact .inr (by rw [e];simp)
theorem z8 (a b c:Nat→Nat):∀ k,(gm a b c k).length=k
 | 0=>rfl
 | k + 1=>by simp [gm,z8 a b c k]
theorem zax (a b c:Nat→Nat):∀ {K k:Nat},k < K→(gm a b c K)[k]? = some (ge (a k) (b k) (c k))
 | K + 1,k,h=>by
  unfold gm
  rcases Nat.lt_or_ge k K with h' | h'
  ·rw [List.getElem?_append_left (by rw [z8];exact h')]
   exact zax a b c h'
  ·obtain rfl:k=K:=by omega
   rw [List.getElem?_append_right (by rw [z8];exact Nat.le_refl _),z8]
   simp
theorem xby (a b c:Nat→Nat):∀ k,∀ r∈gm a b c k,r.length=3∧r.all okc=true
 | 0,r,h=>by cases h
 | k + 1,r,h=>by
  rcases List.mem_append.1 h with h | h
  ·exact xby a b c k r h
  ·rw [List.mem_singleton.1 h];exact ⟨rfl,rfl⟩
theorem wx (x y z:Nat):∀ w∈ge x y z,Pure w:=jx (.int _ _) (.int _ _) (.int _ _)
theorem gaw (a b c:Nat→Nat):∀ k,∀ r∈gm a b c k,∀ x∈r,Pure x
 | 0,r,h=>by cases h
 | k + 1,r,h=>by
  rcases List.mem_append.1 h with h | h
  ·exact gaw a b c k r h
  ·rw [List.mem_singleton.1 h];exact wx _ _ _
theorem ua7 (x y z:Nat):Pure (.agg (ge x y z)):=.agg _ fun i hi=>wx x y z _ (List.getElem_mem hi)
theorem vX (a b:Nat) (ha:a < 18446744073709551616) (hb:b < 18446744073709551616):IntKind.u64.wrap ((BitVec.ofInt IntKind.u64.bits (a:Int) ||| BitVec.ofInt IntKind.u64.bits (b:Int)).toNat)=((a ||| b:Nat):Int):=by
 have h64:IntKind.u64.bits=64:=rfl
 rw [h64,BitVec.ofInt_natCast,BitVec.ofInt_natCast,BitVec.toNat_or,BitVec.toNat_ofNat,BitVec.toNat_ofNat,Nat.mod_eq_of_lt ha,Nat.mod_eq_of_lt hb]
 exact jB _ (Nat.or_lt_two_pow (n:=64) ha hb)
def uw (os:List Nat) (rows:List (List Ch × Option Nat)) (p k:Nat):AV:=if k < pC os rows p then .vs (osV (stC os rows p k)) (if k=0 then some os.length else none) else .nils
def vw (os:List Nat) (rows:List (List Ch × Option Nat)) (p k j:Nat):AV:=if j < J2 os rows p then .vs (osV (stD os rows p k j)) (if j=0 then (if k=0 then some os.length else none) else none) else .nils
section next_
variable {os:List Nat} {rows:List (List Ch × Option Nat)} {p:Nat} (h:ModOK os rows)
include h
theorem vbW {k:Nat} (hk:k < pC os rows p):yao (jn p os (xk rows) (stC os rows p k))=uw os rows p (k + 1):=by
 unfold stC
 rw [vap p os (xk rows) _ k (xF h) (by simp) (qaq h) hk]
 unfold uw pC
 split
 ·rename_i h1
  rw [if_neg (by omega)];rfl
 ·rename_i h1
  rfl
theorem gbd {k j:Nat} (hj:j < J2 os rows p):yao (jn (1 - p) os (xk rows) (stD os rows p k j))=vw os rows p k (j + 1):=by
 unfold stD
 rw [vap (1 - p) os (xk rows) _ j (xF h) (qG h k).len (qaq h) hj]
 unfold vw J2 pC
 split
 ·rename_i h1
  rw [if_neg (by omega)];rfl
 ·rename_i h1
  rfl
theorem wbH:stC os rows p 0=List.replicate os.length 0:=zaS p os _ (xF h)
theorem vba:0 < pC os rows p:=ja8 p os _ (qaq h)
omit h in
theorem gaR (q:Nat):∀ (os ls cs:List Nat),ls.length=os.length→cs.length=os.length→(∀ s,s < os.length→os.getD s 0=q→cs.getD s 0=0)→uh q os ls cs 0=cs
 | [],[],[],_,_,_=>rfl
 | o :: os,l :: ls,c :: cs,h1,h2,h3=>by
  have h1':ls.length=os.length:=by simpa using h1
  have h2':cs.length=os.length:=by simpa using h2
  have h3':∀ s,s < os.length→os.getD s 0=q→cs.getD s 0=0:=fun t ht ho=>by have:=h3 (t + 1) (by simpa using ht) (by simpa using ho);simpa using this
  unfold uh
  split
  ·rename_i ho
   have hc:c=0:=by have:=h3 0 (by simp) (by simpa using ho);simpa using this
   rw [Nat.zero_mod,Nat.zero_div,gaR q os ls cs h1' h2' h3',hc]
  ·rw [gaR q os ls cs h1' h2' h3']
theorem xbH (hp:p=0∨p=1) (k:Nat):stD os rows p k 0=stC os rows p k:=gaR (1 - p) os _ _ (xF h) (qG h k).len fun s hs ho=>by
 have:=zav p os (xk rows) (List.replicate os.length 0) k (xF h) (by simp) s hs (by omega)
 unfold stC
 rw [this]
 simp [List.getD,hs]
end next_
theorem yaH {w n:Nat} {f:Nat→Nat} (hn:n≤12) (hw:w < 2 ^ n) (j:Nat):yB w f j < 18446744073709551616 :=
 Nat.lt_of_le_of_lt (yby j) (Nat.lt_of_lt_of_le hw (Nat.le_trans (Nat.pow_le_pow_right (by decide:0 < 2) (show n≤64 by omega)) (by decide)))
theorem wX {f:Nat→Nat} (h:∀ i,f i < 18446744073709551616) (j:Nat):orF f j < 18446744073709551616:=wbb (n:=64) h j
theorem jbz (n:Nat):List.replicate n [AV.int .i64 0]=osV (List.replicate n 0):=by
 simp [osV]
theorem jbs (os:List Nat) (rows:List (List Ch × Option Nat)) (p k:Nat):Pure (uw os rows p k):=by
 unfold uw
 split
 ·exact wi _ _
 ·exact .nils
theorem vbs (os:List Nat) (rows:List (List Ch × Option Nat)) (p k j:Nat):Pure (vw os rows p k j):=by
 unfold vw
 split
 ·exact wi _ _
 ·exact .nils
theorem qa8 (p:Nat):∀ (os ls:List Nat),(∀ l∈ls,l≤4)→vh p os ls≤4 ^ os.length
 | [],_,_=>by simp [vh]
 | _ :: os,[],_=>by
  show 1≤_
  exact Nat.pow_pos (by decide)
 | o :: os,l :: ls,h=>by
  unfold vh
  have ih:=qa8 p os ls fun x hx=>h x (List.mem_cons_of_mem _ hx)
  have hl:=h l List.mem_cons_self
  have e:4 ^ (o :: os).length=4 * 4 ^ os.length:=by rw [List.length_cons,Nat.pow_succ,Nat.mul_comm]
  rw [e]
  split
  ·exact Nat.mul_le_mul hl ih
  ·omega
theorem wbQ {os:List Nat} {rows:List (List Ch × Option Nat)} {p:Nat} (h:ModOK os rows):pC os rows p≤16777216:=by
 refine Nat.le_trans (qa8 p os _ fun l hl => ?_) (Nat.le_trans (Nat.pow_le_pow_right (by decide:0 < 4) h.states.2) (by decide))
 obtain ⟨r,hr,rfl⟩:=List.mem_map.1 hl
 exact (h.count r hr).2
theorem qbs (os:List Nat) (rows:List (List Ch × Option Nat)) (p k:Nat):(∃ l c,uw os rows p k=.vs l c)∨uw os rows p k=.nils:=by
 unfold uw
 split
 ·exact .inl ⟨_,_,rfl⟩
 ·exact .inr rfl
theorem ubs (os:List Nat) (rows:List (List Ch × Option Nat)) (p k j:Nat):(∃ l c,vw os rows p k j=.vs l c)∨vw os rows p k j=.nils:=by
 unfold vw
 split
 ·exact .inl ⟨_,_,rfl⟩
 ·exact .inr rfl
def qw (os:List Nat) (oc cc:Option Nat) (rows:List (List Ch × Option Nat)):List (Option Blk) :=
 [some (.rows [ye os oc rows cc] false false),some (.rows [ge 0 0 0] false false),some (.rows (osV (List.replicate os.length 0)) false true)]
theorem gah (os:List Nat) (oc cc:Option Nat) (rows:List (List Ch × Option Nat)) (R:List (Option Blk)) (hR:∀ (b:Nat) (x:Blk),R[b]? = some (some x)→∃ rs g fz,x=Blk.rows rs g fz∧∀ r∈rs,∀ y∈r,Pure y):(Heap.mk (qw os oc cc rows ++ R) []).Lt:=by
 refine ⟨fun b x hb => ?_,fun l r hr=>by simp [Heap.loop?] at hr⟩
 have hb:((qw os oc cc rows ++ R)[b]?).join=some x:=hb
 match b,hb with
 | 0,hb=>injection hb with hb;subst hb;exact xo fun r hr=>by rw [List.mem_singleton.1 hr];exact yW _ _ _ _
 | 1,hb=>injection hb with hb;subst hb;exact xo fun r hr=>by rw [List.mem_singleton.1 hr];exact wx _ _ _
 | 2,hb=>injection hb with hb;subst hb;exact xo yC
 | i + 3,hb =>
  have e:((qw os oc cc rows ++ R)[i + 3]?)=R[i]? := by simp [qw]
  rw [e] at hb
  cases hq:R[i]? with
  | none=>rw [hq] at hb;cases hb
  | some q =>
   rw [hq] at hb
   obtain rfl:q=some x:=hb
   obtain ⟨rs,g,fz,rfl,hp⟩:=hR i x hq
   exact xo hp
set_option maxHeartbeats 16000000 in
theorem ybx {os:List Nat} {oc cc:Option Nat} {rows:List (List Ch × Option Nat)} {T p:Nat} (h:ModOK os rows) (hT:Sub T (qb os.length)) (hp:p=0∨p=1) :
  zb Tryz.prog 19 [.agg (ye os oc rows cc),.int .u64 ((T:Nat):Int),.int .i64 ((p:Nat):Int)]
   (.tup [.agg (ge (ql os (yb rows) p T) (uj os (yb rows) p T) (wk (qb os.length) (ql os (yb rows) (1 - p) T))),.bool true]):=by
 have hs0:=h.states
 have hw:=h.width
 have hlo:(osV os).length=os.length:=by simp [osV]
 have pM:=zk os oc rows cc
 have hall:=gaW os.length (by omega)
 have halt:=yax os.length (by omega)
 have hall2:qb os.length < 2 ^ os.length:=Nat.sub_lt (Nat.two_pow_pos _) Nat.one_pos
 have hT64:T < 18446744073709551616:=Nat.lt_of_le_of_lt hT.le halt
 obtain ⟨w0s,k0,hk0,w0⟩:=wbB h hT hp
 obtain ⟨w1s,k1,hk1,w1⟩:=xbB h hT hp
 obtain ⟨w2s,k2,hk2,w2⟩:=ybB h hT hp
 obtain ⟨K,hK⟩:∃ K,pC os rows p=K:=⟨_,rfl⟩
 obtain ⟨J,hJ⟩:∃ J,J2 os rows p=J:=⟨_,rfl⟩
 obtain ⟨O0,hO0⟩:∃ O:Nat→Nat,O=fun k=>xm os rows T p k J:=⟨_,rfl⟩
 obtain ⟨O1,hO1⟩:∃ O:Nat→Nat,O=fun k=>ym os rows T p k J:=⟨_,rfl⟩
 obtain ⟨O2,hO2⟩:∃ O:Nat→Nat,O=fun k=>zm os rows T p k J:=⟨_,rfl⟩
 have l0:∀ k j,xm os rows T p k j < 18446744073709551616:=fun k j=>yaH hs0.2 hall2 j
 have l1:∀ k j,ym os rows T p k j < 18446744073709551616:=fun k j=>yaH hs0.2 hall2 j
 have l2:∀ k j,zm os rows T p k j < 18446744073709551616:=fun k j=>yaH hs0.2 hall2 j
 have lO0:∀ k,O0 k < 18446744073709551616:=fun k=>by rw [hO0];exact l0 k J
 have lO1:∀ k,O1 k < 18446744073709551616:=fun k=>by rw [hO1];exact l1 k J
 have lO2:∀ k,O2 k < 18446744073709551616:=fun k=>by rw [hO2];exact l2 k J
 have hKp:0 < K:=hK ▸ vba h
 have hJp:0 < J:=hJ ▸ vba h (p:=1 - p)
 rw [hK] at hk0 hk1 hk2 w0s w1s w2s
 rw [hJ] at w0 w1 w2 w0s w1s w2s
 have x0:orF O0 K=ql os (yb rows) p T:=jaH hk0 (by rw [hO0];exact w0) fun k hk=>by rw [hO0];exact w0s k hk
 have x1:orF O1 K=uj os (yb rows) p T:=jaH hk1 (by rw [hO1];exact w1) fun k hk=>by rw [hO1];exact w1s k hk
 have x2:orF O2 K=wk (qb os.length) (ql os (yb rows) (1 - p) T):=jaH hk2 (by rw [hO2];exact w2) fun k hk=>by rw [hO2];exact w2s k hk
 rw [← x0] at w0 ⊢
 rw [← x1] at w1 ⊢
 rw [← x2] at w2 ⊢
 have y0:xq O0 (orF O0 K) K=true:=gar hk0 (by rw [hO0] at w0 ⊢;exact w0)
 have y1:xq O1 (orF O1 K) K=true:=gar hk1 (by rw [hO1] at w1 ⊢;exact w1)
 have y2:xq O2 (orF O2 K) K=true:=gar hk2 (by rw [hO2] at w2 ⊢;exact w2)
 have hne:(((os.length:Nat):Int) != ((os.length:Nat):Int))=false:=by simp
 have lset:∀ f,uf f os.length < 18446744073709551616:=fun f=>Nat.lt_of_lt_of_le (yaC f _) (Nat.le_trans (Nat.pow_le_pow_right (by decide:0 < 2) (show os.length≤64 by omega)) (by decide))
 have hKm:K≤16777216:=hK ▸ wbQ h
 have hbig:∀ k,k + 1 < K→(k + 1 + 1) * 24≤140737488355328:=fun k hk=>by omega
 have p1:((1:Int) - ((p:Nat):Int))=((1 - p:Nat):Int):=by omega
 refine yc (jx pM (.int _ _) (.int _ _)) (jE (ua7 _ _ _) (.bool _)) (jb vB mixed Tryz.func19 rfl (by decide +kernel) ?_)
 conv=>whnf
 repeat ((first | refine And.intro ⟨rfl,by decide,rfl⟩ ?_ | refine And.intro ⟨by decide,rfl⟩ ?_ | refine za rfl ?_ | refine qc hlo ?_ | refine uC (n:=os.length) (m:=os.length) (rs:=osV (List.replicate os.length 0)) rfl rfl ⟨Nat.le_refl _,by show 8 * os.length≤_;omega,by omega⟩ ⟨by decide,rfl⟩ (jbz _) ?_ | refine And.intro (Int.natCast_nonneg os.length) ?_ | refine And.intro rfl (zi (qb os.length) hall (jB _ halt) ?_) | refine And.intro rfl ?_);conv=>whnf)
 have pz:Pure (.vs (osV (List.replicate os.length 0)) (some os.length)):=wi _ _
 have hlz:(osV (List.replicate os.length 0)).length=os.length:=by simp [osV]
 refine gbC (rs:=osV (List.replicate os.length 0)) (g:=false) (c:=some os.length) 2 12 ?_ ?_ ?_ ?_
 ·rfl
 ·exact yC
 ·rw [hlz];rfl
 conv=>whnf
 have hcl:∀ k,O0 k=xm os rows T p k J∧O1 k=ym os rows T p k J∧O2 k=zm os rows T p k J:=fun k=>by rw [hO0,hO1,hO2];exact ⟨rfl,rfl,rfl⟩
 refine jz vB mixed 137 (fun k:Nat=>K - k) (fun k=>k≤K)
  (fun k=>[(1,.int .u64 ((T:Nat):Int)),(2,.int .i64 ((p:Nat):Int)),(3,.ptr 0 0 0),(6,.ptr 1 0 0),(9,.int .u64 ((qb os.length:Nat):Int)),(10,.ptr 3 0 0),(11,match k with | 0=>.nils | k + 1=>.ms 5 0 (k + 1) none),(12,uw os rows p k)])
  (fun k=>match k with
   | 0=>⟨qw os oc cc rows ++ [some (.rows [ge 0 0 0] false false)],[]⟩
   | k + 1=>⟨qw os oc cc rows ++ [some (.rows [ge (orF O0 (k + 1)) (orF O1 (k + 1)) (orF O2 (k + 1))] false false),some (.rows [ge (xm os rows T p 0 J) (ym os rows T p 0 J) (zm os rows T p 0 J)] false false),some (.rows (gm O0 O1 O2 (k + 1)) true false)],[]⟩) ?_ ?_ 0 _ (Nat.zero_le _) rfl rfl ⟨rfl,rfl,rfl,rfl,rfl,rfl,rfl,?_,trivial⟩
 ·rintro k -
  rcases k with _ | k
  ·refine ⟨rfl,fun q hq => ?_,gah os oc cc rows _ fun b x hb => ?_,Nat.zero_le _⟩
   ·simp only [List.mem_cons,List.not_mem_nil,or_false] at hq
    rcases hq with rfl | rfl | rfl | rfl | rfl | rfl | rfl | rfl
    ·exact .int _ _
    ·exact .int _ _
    ·exact .ptr _ _ _ (Nat.le_of_ble_eq_true rfl)
    ·exact .ptr _ _ _ (Nat.le_of_ble_eq_true rfl)
    ·exact .int _ _
    ·exact .ptr _ _ _ (Nat.le_of_ble_eq_true rfl)
    ·exact .nils
    ·exact (jbs ..).lt _ _
   ·match b,hb with
    | 0,hb=>injection hb with hb;injection hb with hb;subst hb;exact ⟨_,_,_,rfl,fun r hr=>by rw [List.mem_singleton.1 hr];exact wx _ _ _⟩
    | i + 1,hb=>simp at hb
  ·refine ⟨rfl,fun q hq => ?_,gah os oc cc rows _ fun b x hb => ?_,Nat.zero_le _⟩
   ·simp only [List.mem_cons,List.not_mem_nil,or_false] at hq
    rcases hq with rfl | rfl | rfl | rfl | rfl | rfl | rfl | rfl
    ·exact .int _ _
    ·exact .int _ _
    ·exact .ptr _ _ _ (Nat.le_of_ble_eq_true rfl)
    ·exact .ptr _ _ _ (Nat.le_of_ble_eq_true rfl)
    ·exact .int _ _
    ·exact .ptr _ _ _ (Nat.le_of_ble_eq_true rfl)
    ·exact .ms _ _ _ _ (Nat.le_of_ble_eq_true rfl)
    ·exact (jbs ..).lt _ _
   ·match b,hb with
    | 0,hb=>injection hb with hb;injection hb with hb;subst hb;exact ⟨_,_,_,rfl,fun r hr=>by rw [List.mem_singleton.1 hr];exact wx _ _ _⟩
    | 1,hb=>injection hb with hb;injection hb with hb;subst hb;exact ⟨_,_,_,rfl,fun r hr=>by rw [List.mem_singleton.1 hr];exact wx _ _ _⟩
    | 2,hb=>injection hb with hb;injection hb with hb;subst hb;exact ⟨_,_,_,rfl,gaw _ _ _ _⟩
    | i + 3,hb=>simp at hb
 ·rintro k g hk
  replace hk:k≤K:=hk
  rcases Nat.lt_or_ge k K with hlt | hge
  ·have eC:uw os rows p k=.vs (osV (stC os rows p k)) (if k=0 then some os.length else none):=if_pos (by omega)
   have hnC:=vbW h (p:=p) (k:=k) (by omega)
   have hnx:=xaJ (oc:=oc) (cc:=cc) (kc:=if k=0 then some os.length else none) (p:=p) h (qG h k (p:=p)).len (qG h k (p:=p)).lt
   rw [hnC] at hnx
   have eD:∀ j,j < J→vw os rows p k j=.vs (osV (stD os rows p k j)) (if j=0 then (if k=0 then some os.length else none) else none):=fun j hj=>if_pos (by omega)
   have eDJ:vw os rows p k J=.nils:=if_neg (by omega)
   have eD0:uw os rows p k=vw os rows p k 0:=by rw [eC,eD 0 hJp,xbH h hp,if_pos rfl]
   rcases k with _ | k
   ·skip
    rw [eC]
    conv=>whnf
    refine Or.inl ?_
    conv=>whnf
    repeat ((first | refine ua rfl ?_ | refine And.intro ⟨by decide,rfl⟩ ?_ | refine qa rfl ?_ | refine And.intro rfl ?_);conv=>whnf)
    refine jz vB mixed 137 (fun j:Nat=>J - j) (fun j=>j≤J)
     (fun j=>[(1,.int .u64 ((T:Nat):Int)),(2,.int .i64 ((p:Nat):Int)),(3,.ptr 0 0 0),(6,.ptr 1 0 0),(9,.int .u64 ((qb os.length:Nat):Int)),(10,.ptr 3 0 0),(11,.nils),(12,.vs (osV (stC os rows p 0)) (if 0=0 then some os.length else none)),(13,.ptr 4 0 0),(14,vw os rows p 0 j)])
     (fun j=>⟨qw os oc cc rows ++ [some (.rows [ge 0 0 0] false false),some (.rows [ge (xm os rows T p 0 j) (ym os rows T p 0 j) (zm os rows T p 0 j)] false false)],[]⟩) ?_ ?_ 0 _ (Nat.zero_le _) rfl rfl ⟨rfl,rfl,rfl,rfl,rfl,rfl,rfl,rfl,rfl,(by show some (AV.vs _ _)=some (vw os rows p 0 0);rw [← eD0,eC]),trivial⟩
    ·rintro j -
     refine ⟨rfl,fun q hq => ?_,gah os oc cc rows _ fun b x hb => ?_,Nat.zero_le _⟩
     ·simp only [List.mem_cons,List.not_mem_nil,or_false] at hq
      rcases hq with rfl | rfl | rfl | rfl | rfl | rfl | rfl | rfl | rfl | rfl
      ·exact .int _ _
      ·exact .int _ _
      ·exact .ptr _ _ _ (Nat.le_of_ble_eq_true rfl)
      ·exact .ptr _ _ _ (Nat.le_of_ble_eq_true rfl)
      ·exact .int _ _
      ·exact .ptr _ _ _ (Nat.le_of_ble_eq_true rfl)
      ·exact .nils
      ·exact (wi _ _).lt _ _
      ·exact .ptr _ _ _ (Nat.le_of_ble_eq_true rfl)
      ·exact (vbs ..).lt _ _
     ·match b,hb with
      | 0,hb=>injection hb with hb;injection hb with hb;subst hb;exact ⟨_,_,_,rfl,fun r hr=>by rw [List.mem_singleton.1 hr];exact wx _ _ _⟩
      | 1,hb=>injection hb with hb;injection hb with hb;subst hb;exact ⟨_,_,_,rfl,fun r hr=>by rw [List.mem_singleton.1 hr];exact wx _ _ _⟩
      | i + 2,hb=>simp at hb
    ·rintro j g2 hj
     replace hj:j≤J:=hj
     rcases Nat.lt_or_ge j J with hjl | hjg
     ·have hso:=qL h (p:=p) 0 j
      have hmo:=qY h hso
      have pI:=zk os none (zg rows (stD os rows p 0 j)) (some os.length)
      have hind:=zbk (oc:=oc) (cc:=cc) (kc:=if j=0 then (if 0=0 then some os.length else none) else none) h hso
      have hch:=gbt (oc:=none) (cc:=some os.length) hmo
      rw [ubk h hso] at hch
      have hps:=za9 (oc:=none) (cc:=some os.length) hmo hT64
      have hce:=xbu (oc:=none) (cc:=some os.length) hmo hT64
      have hn2:=xaJ (oc:=oc) (cc:=cc) (kc:=if j=0 then (if 0=0 then some os.length else none) else none) (p:=1 - p) h hso.len hso.lt
      rw [gbd h (by omega)] at hn2
      have ha0:=yK (xm os rows T p 0 j) (uf (vg os.length (zg rows (stD os rows p 0 j)) T) os.length) (l0 _ _) (lset _)
      have ha1:=yK (ym os rows T p 0 j) (uf (xl os.length (zg rows (stD os rows p 0 j)) T) os.length) (l1 _ _) (lset _)
      have hd2:=wD (qb os.length) (uf (vg os.length (zg rows (stD os rows p 0 j)) T) os.length)
      have ha2:=yK (zm os rows T p 0 j) (wk (qb os.length) (uf (vg os.length (zg rows (stD os rows p 0 j)) T) os.length)) (l2 _ _) (wag _ _)
      rw [eD j hjl]
      conv=>whnf
      refine Or.inl ?_
      conv=>whnf
      repeat ((first | refine za rfl ?_ | refine qc hlo ?_ | refine wa hind (wb pM (wi _ _)) ?_ | refine wa hch (vb pI) ?_ | refine wa hps (wb pI (.int _ _)) ?_ | refine ua rfl ?_ | refine ya rfl ?_ | refine ya hne ?_ | refine And.intro ⟨by decide,rfl⟩ ?_ | refine qa rfl ?_ | refine And.intro ⟨by decide,by decide⟩ (And.intro (Nat.le_of_ble_eq_true rfl) ?_) | refine And.intro rfl ?_);conv=>whnf)
      rw [ha0]
      refine Or.inl ⟨by decide +kernel,?_⟩
      conv=>whnf
      repeat ((first | (refine ⟨_,_,fun K hK=>(by (conv=>whnf);first | exact hK | exact za rfl hK | exact And.intro ⟨by decide,by decide⟩ (And.intro (Nat.le_of_ble_eq_true rfl) hK) | exact wa hce (wb pI (.int _ _)) hK | (refine qa rfl ?_;(conv=>whnf);exact hK)),?_⟩;first | exact Or.inl ⟨rfl,trivial,?_⟩ | refine Or.inl ⟨rfl,trivial,?_⟩ | refine Or.inr ⟨trivial,(by repeat' (first | exact True.intro | refine And.intro ?_ ?_ | exact Or.inl (by decide +kernel))),?_⟩));conv=>whnf)
      rw [ha1]
      rcases ubs os rows p 0 (j + 1) with ⟨l',c',e2⟩ | e2
      all_goals
       rw [e2] at hn2
       repeat ((first | refine za rfl ?_ | refine wa hn2 (jx pM (wi _ _) (.int _ _)) ?_ | refine qa rfl ?_ | refine And.intro ⟨by decide,by decide⟩ (And.intro (Nat.le_of_ble_eq_true rfl) ?_) | refine And.intro rfl (zi (1 - p) p1 (wm _ (by omega)) ?_) | refine And.intro rfl ?_);conv=>whnf)
       rw [hd2,ha2]
       exact ⟨j + 1,[some (Blk.rows [ye os none (zg rows (stD os rows p 0 j)) (some os.length)] false false)],by show J - (j + 1) < J - j;omega,hjl,rfl,rfl,rfl,rfl,rfl,rfl,rfl,rfl,rfl,rfl,rfl,congrArg some e2.symm,trivial⟩
     ·obtain rfl:J=j:=by omega
      rw [eDJ]
      conv=>whnf
      refine Or.inl ?_
      conv=>whnf
      have hor0:IntKind.u64.wrap ((BitVec.ofInt IntKind.u64.bits ((orF O0 0:Nat):Int) ||| BitVec.ofInt IntKind.u64.bits ((xm os rows T p 0 J:Nat):Int)).toNat)=((orF O0 1:Nat):Int):=by
       rw [vX _ _ (wX lO0 _) (l0 _ _),← (hcl 0).1];rfl
      have hor1:IntKind.u64.wrap ((BitVec.ofInt IntKind.u64.bits ((orF O1 0:Nat):Int) ||| BitVec.ofInt IntKind.u64.bits ((ym os rows T p 0 J:Nat):Int)).toNat)=((orF O1 1:Nat):Int):=by
       rw [vX _ _ (wX lO1 _) (l1 _ _),← (hcl 0).2.1];rfl
      have hor2:IntKind.u64.wrap ((BitVec.ofInt IntKind.u64.bits ((orF O2 0:Nat):Int) ||| BitVec.ofInt IntKind.u64.bits ((zm os rows T p 0 J:Nat):Int)).toNat)=((orF O2 1:Nat):Int):=by
       rw [vX _ _ (wX lO2 _) (l2 _ _),← (hcl 0).2.2];rfl
      have hal1:gm O0 O1 O2 1=gm O0 O1 O2 0 ++ [ge (xm os rows T p 0 J) (ym os rows T p 0 J) (zm os rows T p 0 J)]:=by
       rw [← (hcl 0).1,← (hcl 0).2.1,← (hcl 0).2.2];rfl
      repeat ((first | refine ya rfl ?_ | refine za rfl ?_ | refine ⟨by decide,by decide,rfl,?_⟩ | refine zB (by decide) ⟨rfl,rfl⟩ ?_ | refine And.intro ⟨rfl,trivial⟩ ?_ | refine Or.inr ?_ | refine And.intro rfl ?_);conv=>whnf)
      refine gf vB mixed 137 (fun i:Nat=>3 - i) (fun i=>i≤3)
       (fun i=>[(1,.int .u64 ((T:Nat):Int)),(2,.int .i64 ((p:Nat):Int)),(3,.ptr 0 0 0),(6,.ptr 1 0 0),(9,.int .u64 ((qb os.length:Nat):Int)),(10,.ptr 3 0 0),(11,.ms 5 0 1 none),(12,.vs (osV (stC os rows p 0)) (if 0=0 then some os.length else none)),(13,.ptr 4 0 0),(100,.int .i64 ((i:Nat):Int))])
       (fun i=>⟨qw os oc cc rows ++ [some (.rows [match i with | 0=>ge (orF O0 0) (orF O1 0) (orF O2 0) | 1=>ge (orF O0 1) (orF O1 0) (orF O2 0) | 2=>ge (orF O0 1) (orF O1 1) (orF O2 0) | _=>ge (orF O0 1) (orF O1 1) (orF O2 1)] false false),some (.rows [ge (xm os rows T p 0 J) (ym os rows T p 0 J) (zm os rows T p 0 J)] false false),some (.rows (gm O0 O1 O2 1) true false)],[]⟩) ?_ 0 _ (Nat.zero_le _) ?_ rfl ⟨rfl,rfl,rfl,rfl,rfl,rfl,rfl,rfl,rfl,rfl,trivial⟩
      rotate_left
      ·rw [hal1];rfl
      rintro i g3 hi
      replace hi:i≤3:=hi
      have hi4:i=0∨i=1∨i=2∨i=3:=by omega
      rcases hi4 with rfl | rfl | rfl | rfl
      iterate 3
       ·conv=>whnf
        refine ua (decide_eq_true (by decide)) ?_
        conv=>whnf
        repeat ((first | refine And.intro rfl ?_);conv=>whnf)
        refine Or.inl ⟨by decide +kernel,?_⟩
        conv=>whnf
        repeat ((first | (refine ⟨_,_,fun K hK=>(by (conv=>whnf);first | exact hK | exact za rfl hK | exact And.intro ⟨by decide,by decide⟩ (And.intro (Nat.le_of_ble_eq_true rfl) hK) | (refine qa rfl ?_;(conv=>whnf);exact hK)),?_⟩;first | exact Or.inl ⟨rfl,trivial,?_⟩ | refine Or.inl ⟨rfl,trivial,?_⟩ | refine Or.inr ⟨trivial,(by repeat' (first | exact True.intro | refine And.intro ?_ ?_ | exact Or.inl (by decide +kernel))),?_⟩));conv=>whnf)
        first | rw [hor0] | rw [hor1] | rw [hor2]
        repeat ((first | refine And.intro rfl (ub (by decide) ?_) | refine And.intro rfl ?_);conv=>whnf)
        exact ⟨_,by decide,by decide,rfl,rfl,rfl,rfl,rfl,rfl,rfl,rfl,rfl,rfl,rfl,rfl,trivial⟩
      ·conv=>whnf
       refine ya (decide_eq_false (by decide)) ?_
       conv=>whnf
       rcases qbs os rows p 1 with ⟨l',c',e2⟩ | e2
       all_goals
        rw [e2] at hnx
        repeat ((first | refine za rfl ?_ | refine wa hnx (jx pM (wi _ _) (.int _ _)) ?_ | refine And.intro rfl ?_);conv=>whnf)
        exact ⟨1,[],by show K - 1 < K - 0;omega,hlt,rfl,rfl,rfl,rfl,rfl,rfl,rfl,rfl,rfl,congrArg some e2.symm,trivial⟩
   ·skip
    rw [eC]
    conv=>whnf
    refine Or.inl ?_
    conv=>whnf
    repeat ((first | refine ua rfl ?_ | refine And.intro ⟨by decide,rfl⟩ ?_ | refine qa rfl ?_ | refine And.intro rfl ?_);conv=>whnf)
    refine jz vB mixed 137 (fun j:Nat=>J - j) (fun j=>j≤J)
     (fun j=>[(1,.int .u64 ((T:Nat):Int)),(2,.int .i64 ((p:Nat):Int)),(3,.ptr 0 0 0),(6,.ptr 1 0 0),(9,.int .u64 ((qb os.length:Nat):Int)),(10,.ptr 3 0 0),(11,.ms 5 0 (k + 1) none),(12,.vs (osV (stC os rows p (k + 1))) (if (k + 1)=0 then some os.length else none)),(13,.ptr 6 0 0),(14,vw os rows p (k + 1) j)])
     (fun j=>⟨qw os oc cc rows ++ [some (.rows [ge (orF O0 (k + 1)) (orF O1 (k + 1)) (orF O2 (k + 1))] false false),some (.rows [ge (xm os rows T p 0 J) (ym os rows T p 0 J) (zm os rows T p 0 J)] false false),some (.rows (gm O0 O1 O2 (k + 1)) true false),some (.rows [ge (xm os rows T p (k + 1) j) (ym os rows T p (k + 1) j) (zm os rows T p (k + 1) j)] false false)],[]⟩) ?_ ?_ 0 _ (Nat.zero_le _) rfl rfl ⟨rfl,rfl,rfl,rfl,rfl,rfl,rfl,rfl,rfl,(by show some (AV.vs _ _)=some (vw os rows p (k + 1) 0);rw [← eD0,eC]),trivial⟩
    ·rintro j -
     refine ⟨rfl,fun q hq => ?_,gah os oc cc rows _ fun b x hb => ?_,Nat.zero_le _⟩
     ·simp only [List.mem_cons,List.not_mem_nil,or_false] at hq
      rcases hq with rfl | rfl | rfl | rfl | rfl | rfl | rfl | rfl | rfl | rfl
      ·exact .int _ _
      ·exact .int _ _
      ·exact .ptr _ _ _ (Nat.le_of_ble_eq_true rfl)
      ·exact .ptr _ _ _ (Nat.le_of_ble_eq_true rfl)
      ·exact .int _ _
      ·exact .ptr _ _ _ (Nat.le_of_ble_eq_true rfl)
      ·exact .ms _ _ _ _ (Nat.le_of_ble_eq_true rfl)
      ·exact (wi _ _).lt _ _
      ·exact .ptr _ _ _ (Nat.le_of_ble_eq_true rfl)
      ·exact (vbs ..).lt _ _
     ·match b,hb with
      | 0,hb=>injection hb with hb;injection hb with hb;subst hb;exact ⟨_,_,_,rfl,fun r hr=>by rw [List.mem_singleton.1 hr];exact wx _ _ _⟩
      | 1,hb=>injection hb with hb;injection hb with hb;subst hb;exact ⟨_,_,_,rfl,fun r hr=>by rw [List.mem_singleton.1 hr];exact wx _ _ _⟩
      | 2,hb=>injection hb with hb;injection hb with hb;subst hb;exact ⟨_,_,_,rfl,gaw _ _ _ _⟩
      | 3,hb=>injection hb with hb;injection hb with hb;subst hb;exact ⟨_,_,_,rfl,fun r hr=>by rw [List.mem_singleton.1 hr];exact wx _ _ _⟩
      | i + 4,hb=>simp at hb
    ·rintro j g2 hj
     replace hj:j≤J:=hj
     rcases Nat.lt_or_ge j J with hjl | hjg
     ·have hso:=qL h (p:=p) (k + 1) j
      have hmo:=qY h hso
      have pI:=zk os none (zg rows (stD os rows p (k + 1) j)) (some os.length)
      have hind:=zbk (oc:=oc) (cc:=cc) (kc:=if j=0 then (if (k + 1)=0 then some os.length else none) else none) h hso
      have hch:=gbt (oc:=none) (cc:=some os.length) hmo
      rw [ubk h hso] at hch
      have hps:=za9 (oc:=none) (cc:=some os.length) hmo hT64
      have hce:=xbu (oc:=none) (cc:=some os.length) hmo hT64
      have hn2:=xaJ (oc:=oc) (cc:=cc) (kc:=if j=0 then (if (k + 1)=0 then some os.length else none) else none) (p:=1 - p) h hso.len hso.lt
      rw [gbd h (by omega)] at hn2
      have ha0:=yK (xm os rows T p (k + 1) j) (uf (vg os.length (zg rows (stD os rows p (k + 1) j)) T) os.length) (l0 _ _) (lset _)
      have ha1:=yK (ym os rows T p (k + 1) j) (uf (xl os.length (zg rows (stD os rows p (k + 1) j)) T) os.length) (l1 _ _) (lset _)
      have hd2:=wD (qb os.length) (uf (vg os.length (zg rows (stD os rows p (k + 1) j)) T) os.length)
      have ha2:=yK (zm os rows T p (k + 1) j) (wk (qb os.length) (uf (vg os.length (zg rows (stD os rows p (k + 1) j)) T) os.length)) (l2 _ _) (wag _ _)
      rw [eD j hjl]
      conv=>whnf
      refine Or.inl ?_
      conv=>whnf
      repeat ((first | refine za rfl ?_ | refine qc hlo ?_ | refine wa hind (wb pM (wi _ _)) ?_ | refine wa hch (vb pI) ?_ | refine wa hps (wb pI (.int _ _)) ?_ | refine ua rfl ?_ | refine ya rfl ?_ | refine ya hne ?_ | refine And.intro ⟨by decide,rfl⟩ ?_ | refine qa rfl ?_ | refine And.intro ⟨by decide,by decide⟩ (And.intro (Nat.le_of_ble_eq_true rfl) ?_) | refine And.intro rfl ?_);conv=>whnf)
      rw [ha0]
      refine Or.inl ⟨by decide +kernel,?_⟩
      conv=>whnf
      repeat ((first | (refine ⟨_,_,fun K hK=>(by (conv=>whnf);first | exact hK | exact za rfl hK | exact And.intro ⟨by decide,by decide⟩ (And.intro (Nat.le_of_ble_eq_true rfl) hK) | exact wa hce (wb pI (.int _ _)) hK | (refine qa rfl ?_;(conv=>whnf);exact hK)),?_⟩;first | exact Or.inl ⟨rfl,trivial,?_⟩ | refine Or.inl ⟨rfl,trivial,?_⟩ | refine Or.inr ⟨trivial,(by repeat' (first | exact True.intro | refine And.intro ?_ ?_ | exact Or.inl (by decide +kernel))),?_⟩));conv=>whnf)
      rw [ha1]
      rcases ubs os rows p (k + 1) (j + 1) with ⟨l',c',e2⟩ | e2
      all_goals
       rw [e2] at hn2
       repeat ((first | refine za rfl ?_ | refine wa hn2 (jx pM (wi _ _) (.int _ _)) ?_ | refine qa rfl ?_ | refine And.intro ⟨by decide,by decide⟩ (And.intro (Nat.le_of_ble_eq_true rfl) ?_) | refine And.intro rfl (zi (1 - p) p1 (wm _ (by omega)) ?_) | refine And.intro rfl ?_);conv=>whnf)
       rw [hd2,ha2]
       exact ⟨j + 1,[some (Blk.rows [ye os none (zg rows (stD os rows p (k + 1) j)) (some os.length)] false false)],by show J - (j + 1) < J - j;omega,hjl,rfl,rfl,rfl,rfl,rfl,rfl,rfl,rfl,rfl,rfl,rfl,congrArg some e2.symm,trivial⟩
     ·obtain rfl:J=j:=by omega
      rw [eDJ]
      conv=>whnf
      refine Or.inl ?_
      conv=>whnf
      have hor0:IntKind.u64.wrap ((BitVec.ofInt IntKind.u64.bits ((orF O0 (k + 1):Nat):Int) ||| BitVec.ofInt IntKind.u64.bits ((xm os rows T p (k + 1) J:Nat):Int)).toNat)=((orF O0 (k + 1 + 1):Nat):Int):=by
       rw [vX _ _ (wX lO0 _) (l0 _ _),← (hcl (k + 1)).1];rfl
      have hor1:IntKind.u64.wrap ((BitVec.ofInt IntKind.u64.bits ((orF O1 (k + 1):Nat):Int) ||| BitVec.ofInt IntKind.u64.bits ((ym os rows T p (k + 1) J:Nat):Int)).toNat)=((orF O1 (k + 1 + 1):Nat):Int):=by
       rw [vX _ _ (wX lO1 _) (l1 _ _),← (hcl (k + 1)).2.1];rfl
      have hor2:IntKind.u64.wrap ((BitVec.ofInt IntKind.u64.bits ((orF O2 (k + 1):Nat):Int) ||| BitVec.ofInt IntKind.u64.bits ((zm os rows T p (k + 1) J:Nat):Int)).toNat)=((orF O2 (k + 1 + 1):Nat):Int):=by
       rw [vX _ _ (wX lO2 _) (l2 _ _),← (hcl (k + 1)).2.2];rfl
      have hal1:gm O0 O1 O2 (k + 1 + 1)=gm O0 O1 O2 (k + 1) ++ [ge (xm os rows T p (k + 1) J) (ym os rows T p (k + 1) J) (zm os rows T p (k + 1) J)]:=by
       rw [← (hcl (k + 1)).1,← (hcl (k + 1)).2.1,← (hcl (k + 1)).2.2];rfl
      repeat ((first | refine ya rfl ?_ | refine za rfl ?_ | refine ⟨by decide,by decide,rfl,?_⟩ | refine wy (rs:=gm O0 O1 O2 (k + 1)) rfl (by decide) ⟨rfl,rfl⟩ (xby _ _ _ _) ⟨by omega,(z8 _ _ _ _).symm,hbig k hlt⟩ ?_ | refine And.intro ⟨rfl,trivial⟩ ?_ | refine Or.inr ?_ | refine And.intro rfl ?_);conv=>whnf)
      refine gf vB mixed 137 (fun i:Nat=>3 - i) (fun i=>i≤3)
       (fun i=>[(1,.int .u64 ((T:Nat):Int)),(2,.int .i64 ((p:Nat):Int)),(3,.ptr 0 0 0),(6,.ptr 1 0 0),(9,.int .u64 ((qb os.length:Nat):Int)),(10,.ptr 3 0 0),(11,.ms 5 0 (k + 1 + 1) none),(12,.vs (osV (stC os rows p (k + 1))) (if (k + 1)=0 then some os.length else none)),(13,.ptr 6 0 0),(100,.int .i64 ((i:Nat):Int))])
       (fun i=>⟨qw os oc cc rows ++ [some (.rows [match i with | 0=>ge (orF O0 (k + 1)) (orF O1 (k + 1)) (orF O2 (k + 1)) | 1=>ge (orF O0 (k + 1 + 1)) (orF O1 (k + 1)) (orF O2 (k + 1)) | 2=>ge (orF O0 (k + 1 + 1)) (orF O1 (k + 1 + 1)) (orF O2 (k + 1)) | _=>ge (orF O0 (k + 1 + 1)) (orF O1 (k + 1 + 1)) (orF O2 (k + 1 + 1))] false false),some (.rows [ge (xm os rows T p 0 J) (ym os rows T p 0 J) (zm os rows T p 0 J)] false false),some (.rows (gm O0 O1 O2 (k + 1 + 1)) true false),some (.rows [ge (xm os rows T p (k + 1) J) (ym os rows T p (k + 1) J) (zm os rows T p (k + 1) J)] false false)],[]⟩) ?_ 0 _ (Nat.zero_le _) ?_ rfl ⟨rfl,rfl,rfl,rfl,rfl,rfl,rfl,rfl,rfl,rfl,trivial⟩
      rotate_left
      ·rw [hal1];rfl
      rintro i g3 hi
      replace hi:i≤3:=hi
      have hi4:i=0∨i=1∨i=2∨i=3:=by omega
      rcases hi4 with rfl | rfl | rfl | rfl
      iterate 3
       ·conv=>whnf
        refine ua (decide_eq_true (by decide)) ?_
        conv=>whnf
        repeat ((first | refine And.intro rfl ?_);conv=>whnf)
        refine Or.inl ⟨by decide +kernel,?_⟩
        conv=>whnf
        repeat ((first | (refine ⟨_,_,fun K hK=>(by (conv=>whnf);first | exact hK | exact za rfl hK | exact And.intro ⟨by decide,by decide⟩ (And.intro (Nat.le_of_ble_eq_true rfl) hK) | (refine qa rfl ?_;(conv=>whnf);exact hK)),?_⟩;first | exact Or.inl ⟨rfl,trivial,?_⟩ | refine Or.inl ⟨rfl,trivial,?_⟩ | refine Or.inr ⟨trivial,(by repeat' (first | exact True.intro | refine And.intro ?_ ?_ | exact Or.inl (by decide +kernel))),?_⟩));conv=>whnf)
        first | rw [hor0] | rw [hor1] | rw [hor2]
        repeat ((first | refine And.intro rfl (ub (by decide) ?_) | refine And.intro rfl ?_);conv=>whnf)
        exact ⟨_,by decide,by decide,rfl,rfl,rfl,rfl,rfl,rfl,rfl,rfl,rfl,rfl,rfl,rfl,trivial⟩
      ·conv=>whnf
       refine ya (decide_eq_false (by decide)) ?_
       conv=>whnf
       rcases qbs os rows p (k + 1 + 1) with ⟨l',c',e2⟩ | e2
       all_goals
        rw [e2] at hnx
        repeat ((first | refine za rfl ?_ | refine wa hnx (jx pM (wi _ _) (.int _ _)) ?_ | refine And.intro rfl ?_);conv=>whnf)
        exact ⟨(k + 1 + 1),[some (Blk.rows [ge (xm os rows T p (k + 1) J) (ym os rows T p (k + 1) J) (zm os rows T p (k + 1) J)] false false)],by show K - (k + 1 + 1) < K - (k + 1);omega,hlt,rfl,rfl,rfl,rfl,rfl,rfl,rfl,rfl,rfl,congrArg some e2.symm,trivial⟩
  ·obtain rfl:K=k:=by omega
   have eK:uw os rows p K=.nils:=if_neg (by omega)
   obtain ⟨K',rfl⟩:∃ K',K=K' + 1:=⟨K - 1,by omega⟩
   rw [eK]
   conv=>whnf
   refine Or.inl ?_
   conv=>whnf
   repeat ((first | refine ya rfl ?_ | refine And.intro rfl ?_);conv=>whnf)
   have hHlt:=gah os oc cc rows [some (Blk.rows [ge (orF O0 (K' + 1)) (orF O1 (K' + 1)) (orF O2 (K' + 1))] false false),some (Blk.rows [ge (xm os rows T p 0 J) (ym os rows T p 0 J) (zm os rows T p 0 J)] false false),some (Blk.rows (gm O0 O1 O2 (K' + 1)) true false)] fun b x hb=>by
    match b,hb with
    | 0,hb=>injection hb with hb;injection hb with hb;subst hb;exact ⟨_,_,_,rfl,fun r hr=>by rw [List.mem_singleton.1 hr];exact wx _ _ _⟩
    | 1,hb=>injection hb with hb;injection hb with hb;subst hb;exact ⟨_,_,_,rfl,fun r hr=>by rw [List.mem_singleton.1 hr];exact wx _ _ _⟩
    | 2,hb=>injection hb with hb;injection hb with hb;subst hb;exact ⟨_,_,_,rfl,gaw _ _ _ _⟩
    | i + 3,hb=>simp at hb
   have hal:=z8 O0 O1 O2 (K' + 1)
   refine jz vB mixed 137 (fun i:Nat=>3 - i) (fun i=>i≤3)
    (fun i=>[(6,.ptr 1 0 0),(10,.ptr 3 0 0),(11,.ms 5 0 (K' + 1) none),(112,.int .i64 ((i:Nat):Int))]) (fun _=>⟨qw os oc cc rows ++ [some (Blk.rows [ge (orF O0 (K' + 1)) (orF O1 (K' + 1)) (orF O2 (K' + 1))] false false),some (Blk.rows [ge (xm os rows T p 0 J) (ym os rows T p 0 J) (zm os rows T p 0 J)] false false),some (Blk.rows (gm O0 O1 O2 (K' + 1)) true false)],[]⟩) ?_ ?_ 0 _ (Nat.zero_le _) rfl rfl ⟨rfl,rfl,rfl,rfl,trivial⟩
   ·rintro i -
    refine ⟨rfl,fun q hq => ?_,hHlt,Nat.zero_le _⟩
    simp only [List.mem_cons,List.not_mem_nil,or_false] at hq
    rcases hq with rfl | rfl | rfl | rfl
    ·exact .ptr _ _ _ (Nat.le_of_ble_eq_true rfl)
    ·exact .ptr _ _ _ (Nat.le_of_ble_eq_true rfl)
    ·exact .ms _ _ _ _ (Nat.le_of_ble_eq_true rfl)
    ·exact .int _ _
   ·rintro i g4 hi
    replace hi:i≤3:=hi
    have hi4:i=0∨i=1∨i=2∨i=3:=by omega
    rcases hi4 with rfl | rfl | rfl | rfl
    ·conv=>whnf
     refine ua (decide_eq_true (by decide)) ?_
     conv=>whnf
     repeat ((first | refine qc rfl ?_ | refine And.intro rfl ?_);conv=>whnf)
     refine jz vB mixed 137 (fun t:Nat=>(K' + 1) - t) (fun t=>t≤K' + 1)
      (fun t=>[(6,.ptr 1 0 0),(10,.ptr 3 0 0),(11,.ms 5 0 (K' + 1) none),(19,.int .i64 ((0:Nat):Int)),(20,.bool (xq O0 (orF O0 (K' + 1)) t)),(112,.int .i64 ((0:Nat):Int)),(115,.ms 5 0 (K' + 1) none),(116,.int .i64 ((K' + 1:Nat):Int)),(117,.int .i64 ((t:Nat):Int))]) (fun _=>⟨qw os oc cc rows ++ [some (Blk.rows [ge (orF O0 (K' + 1)) (orF O1 (K' + 1)) (orF O2 (K' + 1))] false false),some (Blk.rows [ge (xm os rows T p 0 J) (ym os rows T p 0 J) (zm os rows T p 0 J)] false false),some (Blk.rows (gm O0 O1 O2 (K' + 1)) true false)],[]⟩) ?_ ?_ 0 _ (Nat.zero_le _) rfl rfl ⟨rfl,rfl,rfl,rfl,rfl,rfl,rfl,rfl,rfl,trivial⟩
     ·rintro t -
      refine ⟨rfl,fun q hq => ?_,hHlt,Nat.zero_le _⟩
      simp only [List.mem_cons,List.not_mem_nil,or_false] at hq
      rcases hq with rfl | rfl | rfl | rfl | rfl | rfl | rfl | rfl | rfl
      ·exact .ptr _ _ _ (Nat.le_of_ble_eq_true rfl)
      ·exact .ptr _ _ _ (Nat.le_of_ble_eq_true rfl)
      ·exact .ms _ _ _ _ (Nat.le_of_ble_eq_true rfl)
      ·exact .int _ _
      ·exact .bool _
      ·exact .int _ _
      ·exact .ms _ _ _ _ (Nat.le_of_ble_eq_true rfl)
      ·exact .int _ _
      ·exact .int _ _
     ·rintro t g5 ht
      replace ht:t≤K' + 1:=ht
      conv=>whnf
      refine yf (fun h5 => ?_) (fun h5 => ?_) <;> conv=>whnf
      ·have htl:t < K' + 1:=by have:((t:Nat):Int) < ((K' + 1:Nat):Int):=h5;omega
       have hrow:(gm O0 O1 O2 (K' + 1))[0 + t]? = some (ge (O0 t) (O1 t) (O2 t)):=by rw [Nat.zero_add];exact zax _ _ _ htl
       have hs:xq O0 (orF O0 (K' + 1)) (t + 1)=(xq O0 (orF O0 (K' + 1)) t || (((O0 t:Nat):Int) == (((orF O0 (K' + 1)):Nat):Int))):=rfl
       repeat ((first | refine gg t rfl htl (by decide) hrow rfl ?_ | refine za (r:=.agg (ge (O0 t) (O1 t) (O2 t))) (by rw [hrow];rfl) ?_ | refine And.intro ⟨by decide,rfl⟩ ?_ | refine qa rfl ?_ | refine And.intro rfl ?_);conv=>whnf)
       refine Or.inl ⟨by decide +kernel,?_⟩
       cases hb:xq O0 (orF O0 (K' + 1)) t with
       | true =>
        rw [hb] at hs
        conv=>whnf
        repeat ((first | refine ya rfl ?_ | refine ua rfl ?_ | (refine ⟨_,_,fun K hK=>(by (conv=>whnf);first | exact hK | exact za rfl hK | exact ua rfl hK | exact ya rfl hK | (refine qa rfl ?_;(conv=>whnf);exact hK)),?_⟩;first | exact Or.inl ⟨rfl,trivial,?_⟩ | refine Or.inl ⟨rfl,trivial,?_⟩ | refine Or.inr ⟨trivial,(by repeat' (first | exact True.intro | refine And.intro ?_ ?_ | exact Or.inl (by decide +kernel))),?_⟩));conv=>whnf)
        repeat ((first | refine And.intro rfl (ub (by omega) ?_) | refine And.intro rfl ?_);conv=>whnf)
        exact ⟨t + 1,[_],by show (K' + 1) - (t + 1) < (K' + 1) - t;omega,htl,rfl,rfl,rfl,rfl,rfl,rfl,congrArg (fun z=>some (AV.bool z)) hs.symm,rfl,rfl,rfl,congrArg (fun z=>some (AV.int .i64 z)) (by push_cast;rfl),trivial⟩
       | false =>
        rw [hb] at hs
        conv=>whnf
        repeat ((first | refine ua rfl ?_ | (refine ⟨_,_,fun K hK=>(by (conv=>whnf);first | exact hK | exact za rfl hK | exact ua rfl hK | exact ya rfl hK | exact And.intro ⟨by decide,by decide⟩ (And.intro (Nat.le_of_ble_eq_true rfl) hK) | (refine qa rfl ?_;(conv=>whnf);exact hK)),?_⟩;first | exact Or.inl ⟨rfl,trivial,?_⟩ | refine Or.inl ⟨rfl,trivial,?_⟩ | refine Or.inr ⟨trivial,(by repeat' (first | exact True.intro | refine And.intro ?_ ?_ | exact Or.inl (by decide +kernel))),?_⟩));conv=>whnf)
        repeat ((first | refine And.intro rfl (ub (by omega) ?_) | refine And.intro rfl ?_);conv=>whnf)
        exact ⟨t + 1,[_],by show (K' + 1) - (t + 1) < (K' + 1) - t;omega,htl,rfl,rfl,rfl,rfl,rfl,rfl,congrArg (fun z=>some (AV.bool z)) hs.symm,rfl,rfl,rfl,congrArg (fun z=>some (AV.int .i64 z)) (by push_cast;rfl),trivial⟩
      ·have htl:¬ t < K' + 1:=by have:¬ ((t:Nat):Int) < ((K' + 1:Nat):Int):=h5;omega
       obtain rfl:t=K' + 1:=by omega
       rw [y0]
       conv=>whnf
       repeat ((first | refine ya rfl ?_ | refine And.intro rfl (ub (by decide) ?_) | refine And.intro rfl ?_);conv=>whnf)
       exact ⟨1,[],by decide,by decide,rfl,rfl,rfl,rfl,rfl,rfl,trivial⟩
    ·conv=>whnf
     refine ua (decide_eq_true (by decide)) ?_
     conv=>whnf
     repeat ((first | refine qc rfl ?_ | refine And.intro rfl ?_);conv=>whnf)
     refine jz vB mixed 137 (fun t:Nat=>(K' + 1) - t) (fun t=>t≤K' + 1)
      (fun t=>[(6,.ptr 1 0 0),(10,.ptr 3 0 0),(11,.ms 5 0 (K' + 1) none),(19,.int .i64 ((1:Nat):Int)),(20,.bool (xq O1 (orF O1 (K' + 1)) t)),(112,.int .i64 ((1:Nat):Int)),(115,.ms 5 0 (K' + 1) none),(116,.int .i64 ((K' + 1:Nat):Int)),(117,.int .i64 ((t:Nat):Int))]) (fun _=>⟨qw os oc cc rows ++ [some (Blk.rows [ge (orF O0 (K' + 1)) (orF O1 (K' + 1)) (orF O2 (K' + 1))] false false),some (Blk.rows [ge (xm os rows T p 0 J) (ym os rows T p 0 J) (zm os rows T p 0 J)] false false),some (Blk.rows (gm O0 O1 O2 (K' + 1)) true false)],[]⟩) ?_ ?_ 0 _ (Nat.zero_le _) rfl rfl ⟨rfl,rfl,rfl,rfl,rfl,rfl,rfl,rfl,rfl,trivial⟩
     ·rintro t -
      refine ⟨rfl,fun q hq => ?_,hHlt,Nat.zero_le _⟩
      simp only [List.mem_cons,List.not_mem_nil,or_false] at hq
      rcases hq with rfl | rfl | rfl | rfl | rfl | rfl | rfl | rfl | rfl
      ·exact .ptr _ _ _ (Nat.le_of_ble_eq_true rfl)
      ·exact .ptr _ _ _ (Nat.le_of_ble_eq_true rfl)
      ·exact .ms _ _ _ _ (Nat.le_of_ble_eq_true rfl)
      ·exact .int _ _
      ·exact .bool _
      ·exact .int _ _
      ·exact .ms _ _ _ _ (Nat.le_of_ble_eq_true rfl)
      ·exact .int _ _
      ·exact .int _ _
     ·rintro t g5 ht
      replace ht:t≤K' + 1:=ht
      conv=>whnf
      refine yf (fun h5 => ?_) (fun h5 => ?_) <;> conv=>whnf
      ·have htl:t < K' + 1:=by have:((t:Nat):Int) < ((K' + 1:Nat):Int):=h5;omega
       have hrow:(gm O0 O1 O2 (K' + 1))[0 + t]? = some (ge (O0 t) (O1 t) (O2 t)):=by rw [Nat.zero_add];exact zax _ _ _ htl
       have hs:xq O1 (orF O1 (K' + 1)) (t + 1)=(xq O1 (orF O1 (K' + 1)) t || (((O1 t:Nat):Int) == (((orF O1 (K' + 1)):Nat):Int))):=rfl
       repeat ((first | refine gg t rfl htl (by decide) hrow rfl ?_ | refine za (r:=.agg (ge (O0 t) (O1 t) (O2 t))) (by rw [hrow];rfl) ?_ | refine And.intro ⟨by decide,rfl⟩ ?_ | refine qa rfl ?_ | refine And.intro rfl ?_);conv=>whnf)
       refine Or.inl ⟨by decide +kernel,?_⟩
       cases hb:xq O1 (orF O1 (K' + 1)) t with
       | true =>
        rw [hb] at hs
        conv=>whnf
        repeat ((first | refine ya rfl ?_ | refine ua rfl ?_ | (refine ⟨_,_,fun K hK=>(by (conv=>whnf);first | exact hK | exact za rfl hK | exact ua rfl hK | exact ya rfl hK | (refine qa rfl ?_;(conv=>whnf);exact hK)),?_⟩;first | exact Or.inl ⟨rfl,trivial,?_⟩ | refine Or.inl ⟨rfl,trivial,?_⟩ | refine Or.inr ⟨trivial,(by repeat' (first | exact True.intro | refine And.intro ?_ ?_ | exact Or.inl (by decide +kernel))),?_⟩));conv=>whnf)
        repeat ((first | refine And.intro rfl (ub (by omega) ?_) | refine And.intro rfl ?_);conv=>whnf)
        exact ⟨t + 1,[_],by show (K' + 1) - (t + 1) < (K' + 1) - t;omega,htl,rfl,rfl,rfl,rfl,rfl,rfl,congrArg (fun z=>some (AV.bool z)) hs.symm,rfl,rfl,rfl,congrArg (fun z=>some (AV.int .i64 z)) (by push_cast;rfl),trivial⟩
       | false =>
        rw [hb] at hs
        conv=>whnf
        repeat ((first | refine ua rfl ?_ | (refine ⟨_,_,fun K hK=>(by (conv=>whnf);first | exact hK | exact za rfl hK | exact ua rfl hK | exact ya rfl hK | exact And.intro ⟨by decide,by decide⟩ (And.intro (Nat.le_of_ble_eq_true rfl) hK) | (refine qa rfl ?_;(conv=>whnf);exact hK)),?_⟩;first | exact Or.inl ⟨rfl,trivial,?_⟩ | refine Or.inl ⟨rfl,trivial,?_⟩ | refine Or.inr ⟨trivial,(by repeat' (first | exact True.intro | refine And.intro ?_ ?_ | exact Or.inl (by decide +kernel))),?_⟩));conv=>whnf)
        repeat ((first | refine And.intro rfl (ub (by omega) ?_) | refine And.intro rfl ?_);conv=>whnf)
        exact ⟨t + 1,[_],by show (K' + 1) - (t + 1) < (K' + 1) - t;omega,htl,rfl,rfl,rfl,rfl,rfl,rfl,congrArg (fun z=>some (AV.bool z)) hs.symm,rfl,rfl,rfl,congrArg (fun z=>some (AV.int .i64 z)) (by push_cast;rfl),trivial⟩
      ·have htl:¬ t < K' + 1:=by have:¬ ((t:Nat):Int) < ((K' + 1:Nat):Int):=h5;omega
       obtain rfl:t=K' + 1:=by omega
       rw [y1]
       conv=>whnf
       repeat ((first | refine ya rfl ?_ | refine And.intro rfl (ub (by decide) ?_) | refine And.intro rfl ?_);conv=>whnf)
       exact ⟨2,[],by decide,by decide,rfl,rfl,rfl,rfl,rfl,rfl,trivial⟩
    ·conv=>whnf
     refine ua (decide_eq_true (by decide)) ?_
     conv=>whnf
     repeat ((first | refine qc rfl ?_ | refine And.intro rfl ?_);conv=>whnf)
     refine jz vB mixed 137 (fun t:Nat=>(K' + 1) - t) (fun t=>t≤K' + 1)
      (fun t=>[(6,.ptr 1 0 0),(10,.ptr 3 0 0),(11,.ms 5 0 (K' + 1) none),(19,.int .i64 ((2:Nat):Int)),(20,.bool (xq O2 (orF O2 (K' + 1)) t)),(112,.int .i64 ((2:Nat):Int)),(115,.ms 5 0 (K' + 1) none),(116,.int .i64 ((K' + 1:Nat):Int)),(117,.int .i64 ((t:Nat):Int))]) (fun _=>⟨qw os oc cc rows ++ [some (Blk.rows [ge (orF O0 (K' + 1)) (orF O1 (K' + 1)) (orF O2 (K' + 1))] false false),some (Blk.rows [ge (xm os rows T p 0 J) (ym os rows T p 0 J) (zm os rows T p 0 J)] false false),some (Blk.rows (gm O0 O1 O2 (K' + 1)) true false)],[]⟩) ?_ ?_ 0 _ (Nat.zero_le _) rfl rfl ⟨rfl,rfl,rfl,rfl,rfl,rfl,rfl,rfl,rfl,trivial⟩
     ·rintro t -
      refine ⟨rfl,fun q hq => ?_,hHlt,Nat.zero_le _⟩
      simp only [List.mem_cons,List.not_mem_nil,or_false] at hq
      rcases hq with rfl | rfl | rfl | rfl | rfl | rfl | rfl | rfl | rfl
      ·exact .ptr _ _ _ (Nat.le_of_ble_eq_true rfl)
      ·exact .ptr _ _ _ (Nat.le_of_ble_eq_true rfl)
      ·exact .ms _ _ _ _ (Nat.le_of_ble_eq_true rfl)
      ·exact .int _ _
      ·exact .bool _
      ·exact .int _ _
      ·exact .ms _ _ _ _ (Nat.le_of_ble_eq_true rfl)
      ·exact .int _ _
      ·exact .int _ _
     ·rintro t g5 ht
      replace ht:t≤K' + 1:=ht
      conv=>whnf
      refine yf (fun h5 => ?_) (fun h5 => ?_) <;> conv=>whnf
      ·have htl:t < K' + 1:=by have:((t:Nat):Int) < ((K' + 1:Nat):Int):=h5;omega
       have hrow:(gm O0 O1 O2 (K' + 1))[0 + t]? = some (ge (O0 t) (O1 t) (O2 t)):=by rw [Nat.zero_add];exact zax _ _ _ htl
       have hs:xq O2 (orF O2 (K' + 1)) (t + 1)=(xq O2 (orF O2 (K' + 1)) t || (((O2 t:Nat):Int) == (((orF O2 (K' + 1)):Nat):Int))):=rfl
       repeat ((first | refine gg t rfl htl (by decide) hrow rfl ?_ | refine za (r:=.agg (ge (O0 t) (O1 t) (O2 t))) (by rw [hrow];rfl) ?_ | refine And.intro ⟨by decide,rfl⟩ ?_ | refine qa rfl ?_ | refine And.intro rfl ?_);conv=>whnf)
       refine Or.inl ⟨by decide +kernel,?_⟩
       cases hb:xq O2 (orF O2 (K' + 1)) t with
       | true =>
        rw [hb] at hs
        conv=>whnf
        repeat ((first | refine ya rfl ?_ | refine ua rfl ?_ | (refine ⟨_,_,fun K hK=>(by (conv=>whnf);first | exact hK | exact za rfl hK | exact ua rfl hK | exact ya rfl hK | (refine qa rfl ?_;(conv=>whnf);exact hK)),?_⟩;first | exact Or.inl ⟨rfl,trivial,?_⟩ | refine Or.inl ⟨rfl,trivial,?_⟩ | refine Or.inr ⟨trivial,(by repeat' (first | exact True.intro | refine And.intro ?_ ?_ | exact Or.inl (by decide +kernel))),?_⟩));conv=>whnf)
        repeat ((first | refine And.intro rfl (ub (by omega) ?_) | refine And.intro rfl ?_);conv=>whnf)
        exact ⟨t + 1,[_],by show (K' + 1) - (t + 1) < (K' + 1) - t;omega,htl,rfl,rfl,rfl,rfl,rfl,rfl,congrArg (fun z=>some (AV.bool z)) hs.symm,rfl,rfl,rfl,congrArg (fun z=>some (AV.int .i64 z)) (by push_cast;rfl),trivial⟩
       | false =>
        rw [hb] at hs
        conv=>whnf
        repeat ((first | refine ua rfl ?_ | (refine ⟨_,_,fun K hK=>(by (conv=>whnf);first | exact hK | exact za rfl hK | exact ua rfl hK | exact ya rfl hK | exact And.intro ⟨by decide,by decide⟩ (And.intro (Nat.le_of_ble_eq_true rfl) hK) | (refine qa rfl ?_;(conv=>whnf);exact hK)),?_⟩;first | exact Or.inl ⟨rfl,trivial,?_⟩ | refine Or.inl ⟨rfl,trivial,?_⟩ | refine Or.inr ⟨trivial,(by repeat' (first | exact True.intro | refine And.intro ?_ ?_ | exact Or.inl (by decide +kernel))),?_⟩));conv=>whnf)
        repeat ((first | refine And.intro rfl (ub (by omega) ?_) | refine And.intro rfl ?_);conv=>whnf)
        exact ⟨t + 1,[_],by show (K' + 1) - (t + 1) < (K' + 1) - t;omega,htl,rfl,rfl,rfl,rfl,rfl,rfl,congrArg (fun z=>some (AV.bool z)) hs.symm,rfl,rfl,rfl,congrArg (fun z=>some (AV.int .i64 z)) (by push_cast;rfl),trivial⟩
      ·have htl:¬ t < K' + 1:=by have:¬ ((t:Nat):Int) < ((K' + 1:Nat):Int):=h5;omega
       obtain rfl:t=K' + 1:=by omega
       rw [y2]
       conv=>whnf
       repeat ((first | refine ya rfl ?_ | refine And.intro rfl (ub (by decide) ?_) | refine And.intro rfl ?_);conv=>whnf)
       exact ⟨3,[],by decide,by decide,rfl,rfl,rfl,rfl,rfl,rfl,trivial⟩
    ·conv=>whnf
     refine ya (decide_eq_false (by decide)) ?_
     conv=>whnf
     repeat ((first | refine za rfl ?_ | refine qa rfl ?_ | refine And.intro rfl ?_);conv=>whnf)
     exact .pure _ (jE (ua7 _ _ _) (.bool _))
 ·have eC0:uw os rows p 0=.vs (osV (List.replicate os.length 0)) (some os.length):=by
   unfold uw
   rw [if_pos (by omega),wbH h,if_pos rfl]
  show some (AV.vs _ _)=some (uw os rows p 0)
  rw [eC0]
end
end Go.Abs
