/-
  Steps to a law of this program: AbsEval2, AbsEval3.
  Conditions: none.
-/
import Derived.Test.YtpdnijifmebnbaaGreatDoorB8
import Derived.Test.YtpdnijifmebnbaaGreatDoorB7
set_option linter.unusedVariables false
set_option linter.unusedSimpArgs false
set_option linter.unusedSectionVars false
namespace Go.Abs
noncomputable section
variable [Gl]
section ops
variable {R:Type} (T:Tab)
def waO:IntKind→Nat
 | .i8=>128 | .u8=>256 | .i16=>32768 | .u16=>65536 | .i32=>2147483648 | .u32=>4294967296 | .i64=>9223372036854775808 | .u64=>18446744073709551616
def gax (k:IntKind) (n:Int):Int:=match n with
 | .ofNat m=>(match Nat.blt m (waO k) with | true=>.ofNat m | false=>k.wrap n)
 | .negSucc _=>k.wrap n
omit [Gl] in
theorem wbA (k:IntKind) (m:Nat) (h:m < waO k):k.wrap (.ofNat m)=.ofNat m:=by
 show k.wrap (m:Int)=(m:Int)
 unfold IntKind.wrap
 cases k <;> simp only [waO] at h <;> simp [IntKind.bits,IntKind.signed] <;> omega
theorem jbA (k:IntKind) (n:Int):gax k n=k.wrap n:=by
 unfold gax
 split
 ·rename_i m
  split
  ·rename_i hb
   rw [wbA k m (by simpa [Nat.blt_eq] using hb)]
  ·rfl
 ·rfl
def vN (k:IntKind) (n:Int) (K:AV→Option R):Option R:=xO (gax k n) fun n=>K (.int k n)
theorem jY (k:IntKind) (n:Int) (K:AV→Option R):vN k n K=K (.int k (k.wrap n)):=by simp only [vN,yO,jbA]
def qJ (b:Bool) (K:AV→Option R):Option R:=match b with | true=>K (.bool true) | false=>K (.bool false)
omit [Gl] in
theorem qaU (b:Bool) (K:AV→Option R):qJ b K=K (.bool b):=by cases b <;> rfl
def jj (k k':IntKind):Bool:=decide (k=k')
def wa4 (k:IntKind) (a:Int) (b:Int) (K:AV→Option R):Option R:=match b with
 | .ofNat b=>vN k (a * 2 ^ (min b k.bits)) K
 | .negSucc _=>none
def ya4 (k:IntKind) (a:Int) (b:Int) (K:AV→Option R):Option R:=match b with
 | .ofNat b=>xO (a.fdiv (2 ^ (min b k.bits))) fun n=>K (.int k n)
 | .negSucc _=>none
def wa7 (k:IntKind) (a:Int) (k':IntKind) (b:Int) (K:AV→Option R):Option R:=match jj k k' && !(b == 0) with
 | true=>vN k (a.tdiv b) K
 | false=>none
def va6 (k:IntKind) (a:Int) (k':IntKind) (b:Int) (K:AV→Option R):Option R:=match jj k k' && !(b == 0) with
 | true=>xO (a.tmod b) fun n=>K (.int k n)
 | false=>none
def v7 (op:BinOp) (k:IntKind) (a:Int) (k':IntKind) (b:Int) (K:AV→Option R):Option R:=match jj k k' with
 | true=>(match yw op k a b with | some r=>fAV r K | none=>none)
 | false=>none
def vaV (op:BinOp) (k:IntKind) (a:Int) (k':IntKind) (b:Int) (K:AV→Option R):Option R :=
 match op with
 | .shl=>wa4 k a b K
 | .shr=>ya4 k a b K
 | .quo=>wa7 k a k' b K
 | .rem=>va6 k a k' b K
 | .add=>(match jj k k' with | true=>vN k (a + b) K | false=>none)
 | .sub=>(match jj k k' with | true=>vN k (a - b) K | false=>none)
 | .mul=>(match jj k k' with | true=>vN k (a * b) K | false=>none)
 | .eql=>(match jj k k' with | true=>qJ (a == b) K | false=>none)
 | .neq=>(match jj k k' with | true=>qJ (a != b) K | false=>none)
 | .lss=>(match jj k k' with | true=>qJ (decide (a < b)) K | false=>none)
 | .leq=>(match jj k k' with | true=>qJ (decide (a≤b)) K | false=>none)
 | .gtr=>(match jj k k' with | true=>qJ (decide (b < a)) K | false=>none)
 | .geq=>(match jj k k' with | true=>qJ (decide (b≤a)) K | false=>none)
 | .and=>v7 .and k a k' b K
 | .or=>v7 .or k a k' b K
 | .xor=>v7 .xor k a k' b K
 | .andNot=>v7 .andNot k a k' b K
theorem xcg {op:BinOp} {k:IntKind} {a:Int} {k':IntKind} {b:Int} {K:AV→Option R} {y:R} (h:v7 op k a k' b K=some y):∃ r,k=k'∧yw op k a b=some r∧K r=some y:=by
 unfold v7 at h
 split at h
 ·rename_i hs
  split at h
  ·rename_i r hr
   rw [xj] at h
   exact ⟨r,by simpa [jj] using hs,hr,h⟩
  ·cases h
 ·cases h
theorem wcf {h:Heap} {t:TypeId} {op:BinOp} {k:IntKind} {a:Int} {k':IntKind} {b:Int} {K:AV→Option R} {y:R} (hh:vaV op k a k' b K=some y) :
  jD K y (gj T h op t (.int k a) (.int k' b)):=by
 have same:∀ {k k':IntKind},jj k k'=true→k=k':=fun h=>by simpa [jj] using h
 unfold vaV at hh
 split at hh
 ·unfold wa4 at hh
  split at hh
  ·rw [jY] at hh
   exact ⟨_,hh,fun Q hq=>⟨Int.natCast_nonneg _,hq⟩⟩
  ·cases hh
 ·unfold ya4 at hh
  split at hh
  ·rw [yO] at hh
   exact ⟨_,hh,fun Q hq=>⟨Int.natCast_nonneg _,hq⟩⟩
  ·cases hh
 ·unfold wa7 at hh
  split at hh
  ·rename_i hc
   rw [jY] at hh
   simp only [Bool.and_eq_true,Bool.not_eq_true',beq_eq_false_iff_ne] at hc
   exact ⟨_,hh,fun Q hq=>by simp only [gj];rw [if_pos (same hc.1)];exact ⟨hc.2,hq⟩⟩
  ·cases hh
 ·unfold va6 at hh
  split at hh
  ·rename_i hc
   rw [yO] at hh
   simp only [Bool.and_eq_true,Bool.not_eq_true',beq_eq_false_iff_ne] at hc
   exact ⟨_,hh,fun Q hq=>by simp only [gj];rw [if_pos (same hc.1)];exact ⟨hc.2,hq⟩⟩
  ·cases hh
 ·split at hh
  ·rename_i hs;rw [jY] at hh;exact ⟨_,hh,fun Q hq=>by simp only [gj,yw];rw [if_pos (same hs)];exact hq⟩
  ·cases hh
 ·split at hh
  ·rename_i hs;rw [jY] at hh;exact ⟨_,hh,fun Q hq=>by simp only [gj,yw];rw [if_pos (same hs)];exact hq⟩
  ·cases hh
 ·split at hh
  ·rename_i hs;rw [jY] at hh;exact ⟨_,hh,fun Q hq=>by simp only [gj,yw];rw [if_pos (same hs)];exact hq⟩
  ·cases hh
 iterate 6
  ·split at hh
   ·rename_i hs;rw [qaU] at hh;exact ⟨_,hh,fun Q hq=>by simp only [gj,yw];rw [if_pos (same hs)];exact hq⟩
   ·cases hh
 all_goals
  obtain ⟨r,rfl,h2,h3⟩:=xcg hh
  exact ⟨r,h3,fun Q hq=>by simp only [gj,if_true,h2];exact hq⟩
def yaV (op:BinOp) (a b:List UInt8) (K:AV→Option R):Option R :=
 match op with
 | .add=>(match Nat.ble (a.length + b.length) 9223372036854775807 with | true=>wh (a ++ b) fun s=>K (.str s) | false=>none)
 | op=>(match yV op a b with | some r=>fAV r K | none=>none)
theorem ycf {h:Heap} {t:TypeId} {op:BinOp} {a b:List UInt8} {K:AV→Option R} {y:R} (hh:yaV op a b K=some y) :
  jD K y (gj T h op t (.str a) (.str b)):=by
 unfold yaV at hh
 split at hh
 ·split at hh
  ·rename_i hc
   rw [qe] at hh
   rw [Nat.ble_eq] at hc
   exact ⟨_,hh,fun Q hq=>⟨by omega,hq⟩⟩
  ·cases hh
 ·split at hh
  ·rename_i hne r hr
   rw [xj] at hh
   refine ⟨r,hh,fun Q hq => ?_⟩
   cases op <;> simp only [yV] at hr <;> simp_all [gj,yV]
  ·cases hh
def xap (e:EH) (d:TypeDesc) (x:AV):Option Bool :=
 match x with
 | .ms b _ _ _=>(match d with | .slice _=>(match e.get b with | some _=>some false | none=>none) | _=>none)
 | .ptr b _ _=>(match d with | .pointer _=>(match e.get b with | some _=>some false | none=>none) | _=>none)
 | .mp b=>(match d with | .map _ _=>(match e.get b with | some _=>some false | none=>none) | _=>none)
 | x=>vt ⟨[],[]⟩ d x
theorem qbd {e:EH} (he:e.ok) (d:TypeDesc) (x:AV):xap e d x=vt e.abs d x:=by
 cases x <;> first
  | (cases d <;> rfl)
  | (simp only [xap,EH.get_abs he];cases d <;> rfl)
def eqE (e:EH) (t:TypeId) (x y:AV):Option Bool :=
 match T t with
 | none=>none
 | some ti =>
  match yq ti.desc x with
  | true=>xap e ti.desc y
  | false=>(match yq ti.desc y with
   | true=>xap e ti.desc x
   | false=>eqA T 100 t x y)
def zad:AV→Bool
 | .int _ _ | .str _=>false
 | _=>true
omit [Gl] in
theorem zcf {h:Heap} {t:TypeId} {x y:AV} {Q:AV→Prop} (hx:zad x=true):gj T h .eql t x y Q=(match T t with
  | none=>False
  | some ti =>
   if yq ti.desc x then (match vt h ti.desc y with | some b=>Q (.bool b) | none=>False)
   else if yq ti.desc y then (match vt h ti.desc x with | some b=>Q (.bool b) | none=>False)
   else match eqA T 100 t x y with | some b=>Q (.bool b) | none=>False):=by
 cases x <;> first | rfl | cases hx
omit [Gl] in
theorem gce {h:Heap} {t:TypeId} {x y:AV} {Q:AV→Prop} (hx:zad x=true):gj T h .neq t x y Q=(match T t with
  | none=>False
  | some ti =>
   if yq ti.desc x then (match vt h ti.desc y with | some b=>Q (.bool !b) | none=>False)
   else if yq ti.desc y then (match vt h ti.desc x with | some b=>Q (.bool !b) | none=>False)
   else match eqA T 100 t x y with | some b=>Q (.bool !b) | none=>False):=by
 cases x <;> first | rfl | cases hx
theorem ybr {e:EH} (he:e.ok) {t:TypeId} {x y:AV} {b:Bool} (h:eqE T e t x y=some b) (hx:zad x=true) (Q:AV→Prop) :
  (Q (.bool b)→gj T e.abs .eql t x y Q)∧(Q (.bool !b)→gj T e.abs .neq t x y Q):=by
 rw [zcf T hx,gce T hx]
 unfold eqE at h
 split at h
 ·cases h
 ·rename_i ti ht
  split at h
  ·rename_i hn
   rw [qbd he] at h
   rw [if_pos hn,if_pos hn,h]
   exact ⟨id,id⟩
  ·rename_i hn
   have hn:¬ yq ti.desc x=true:=by rw [hn];exact Bool.false_ne_true
   split at h
   ·rename_i hn'
    rw [qbd he] at h
    rw [if_neg hn,if_neg hn,if_pos hn',if_pos hn',h]
    exact ⟨id,id⟩
   ·rename_i hn'
    have hn':¬ yq ti.desc y=true:=by rw [hn'];exact Bool.false_ne_true
    rw [if_neg hn,if_neg hn,if_neg hn',if_neg hn',h]
    exact ⟨id,id⟩
def waV (e:EH) (op:BinOp) (t:TypeId) (x y:AV) (K:AV→Option R):Option R :=
 match op with
 | .eql=>(match zad x with | true=>(match eqE T e t x y with | some b=>qJ b K | none=>none) | false=>none)
 | .neq=>(match zad x with | true=>(match eqE T e t x y with | some b=>qJ (!b) K | none=>none) | false=>none)
 | _=>none
def uaV (e:EH) (op:BinOp) (t:TypeId) (x y:AV) (K:AV→Option R):Option R :=
 match x with
 | .int k a=>(match y with | .int k' b=>vaV op k a k' b K | _=>none)
 | .str a=>(match y with | .str b=>yaV op a b K | _=>none)
 | x=>waV T e op t x y K
theorem xcf {e:EH} (he:e.ok) {op:BinOp} {t:TypeId} {x z:AV} {K:AV→Option R} {y:R} (hh:waV T e op t x z K=some y) :
  jD K y (gj T e.abs op t x z):=by
 unfold waV at hh
 split at hh
 ·split at hh
  ·rename_i hx
   split at hh
   ·rename_i b hb
    rw [qaU] at hh
    exact ⟨_,hh,fun Q hq=>(ybr T he hb hx Q).1 hq⟩
   ·cases hh
  ·cases hh
 ·split at hh
  ·rename_i hx
   split at hh
   ·rename_i b hb
    rw [qaU] at hh
    exact ⟨_,hh,fun Q hq=>(ybr T he hb hx Q).2 hq⟩
   ·cases hh
  ·cases hh
 ·cases hh
theorem zbx {e:EH} (he:e.ok) {op:BinOp} {t:TypeId} {x z:AV} {K:AV→Option R} {y:R} (hh:uaV T e op t x z K=some y) :
  jD K y (gj T e.abs op t x z):=by
 unfold uaV at hh
 split at hh
 ·split at hh
  ·exact wcf T hh
  ·cases hh
 ·split at hh
  ·exact ycf T hh
  ·cases hh
 ·exact xcf T he hh
def y6 (e:EH) (src dst:TypeId) (x:AV) (K:AV→EH→Option R):Option R :=
 match T src,T dst with
 | some _,some di =>
  match x with
  | .int _ n=>(match di.desc with | .int k=>vN k n (fun r=>K r e) | _=>none)
  | .str s=>(match di.desc with | .string=>K (.str s) e | _=>none)
  | _=>none
 | _,_=>none
def Quiet (K:AV→EH→Option R) (e:EH) (y:R) (S:(AV→Heap→Prop)→Prop):Prop :=
 ∃ r,K r e=some y∧∀ Q:AV→Heap→Prop,Q r e.abs→S Q
omit [Gl] in
theorem Quiet.went {K:AV→EH→Option R} {e:EH} {y:R} {S:(AV→Heap→Prop)→Prop} (he:e.ok) (h:Quiet K e y S):wl K y S:=by
 obtain ⟨r,h1,h2⟩:=h
 exact ⟨r,e,he,h1,h2⟩
theorem ycb {e:EH} {src dst:TypeId} {x:AV} {K:AV→EH→Option R} {y:R} (h:y6 T e src dst x K=some y):Quiet K e y (jJ T e.abs src dst x):=by
 unfold y6 at h
 split at h
 ·rename_i si di hs hd
  split at h
  ·split at h
   ·rename_i k hk
    rw [jY] at h
    exact ⟨_,h,fun Q hq=>by simp only [jJ,hs,hd,hk];exact hq⟩
   ·cases h
  ·split at h
   ·rename_i hk
    exact ⟨_,h,fun Q hq=>by simp only [jJ,hs,hd,hk];exact hq⟩
   ·cases h
  ·cases h
 ·cases h
def xbk (e:EH) (t:TypeId) (el:TypeId) (b s len:Nat) (i:Nat) (K:AV→Option R):Option R :=
 match Nat.blt i len with
 | false=>none
 | true =>
  match T el with
  | none=>none
  | some ei =>
   match e.get b with
   | some (.rows rs _ _)=>(match zw rs (s + i) with
    | some row=>(match zD row ei.size && Nat.blt 0 ei.size with | true=>gc (s + i) fun si=>K (.ptr b si 0) | false=>none)
    | none=>none)
   | _=>none
def ybk (el:TypeId) (es:List (List AV)) (i:Nat) (K:AV→Option R):Option R :=
 match T el with
 | none=>none
 | some ei=>(match zw es i with
  | some row=>(match zD row ei.size with | true=>K (.vp row 0) | false=>none)
  | none=>none)
def jaN (e:EH) (t:TypeId) (x ix:AV) (K:AV→Option R):Option R :=
 match T t with
 | none=>none
 | some ti =>
 match ix with
 | .int _ (.ofNat i) =>
  match ti.desc with
  | .slice el=>(match x with
   | .ms b s len _=>xbk T e t el b s len i K
   | .vs es _=>ybk T el es i K
   | _=>none)
  | .array n el=>(match Nat.blt i n with
   | false=>none
   | true=>(match T el with
    | none=>none
    | some ei=>(match x with
     | .ptr b r j=>(match e.get b with
      | some (.rows rs _ _)=>(match zw rs r with
       | some row=>(match Nat.blt (j + i * ei.size) row.length with | true=>gc (j + i * ei.size) fun o=>K (.ptr b r o) | false=>none)
       | none=>none)
      | _=>none)
     | .vp row j=>gc (j + i * ei.size) fun o=>K (.vp row o)
     | .gp g j=>gc (j + i * ei.size) fun o=>K (.gp g o)
     | _=>none)))
  | _=>none
 | _=>none
theorem vbk {e:EH} (he:e.ok) {t:TypeId} {x ix:AV} {K:AV→Option R} {y:R} (h:jaN T e t x ix K=some y):jD K y (yD T e.abs t x ix):=by
 unfold jaN at h
 split at h
 ·cases h
 ·rename_i ti ht
  split at h
  ·rename_i k i
   split at h
   ·rename_i el hd
    split at h
    ·rename_i b s len capo
     unfold xbk at h
     simp only [yN] at h
     split at h
     ·cases h
     ·rename_i hi
      rw [Nat.blt_eq] at hi
      split at h
      ·cases h
      ·rename_i ei hei
       rw [EH.get_abs he] at h
       split at h
       ·rename_i rs g fz hb
        rw [qu] at h
        split at h
        ·rename_i row hrow
         split at h
         ·rename_i hc
          rw [qd] at h
          simp only [Bool.and_eq_true,beq_iff_eq,Nat.blt_eq] at hc
          refine ⟨_,h,fun Q hq => ?_⟩
          simp only [yD,jH,ht,hd,hei,hb]
          exact ⟨⟨Int.natCast_nonneg i,Int.ofNat_lt.2 hi⟩,hc.2,⟨row,hrow,hc.1⟩,hq⟩
         ·cases h
        ·cases h
       ·cases h
    ·rename_i es capo
     unfold ybk at h
     simp only [yN] at h
     split at h
     ·cases h
     ·rename_i ei hei
      rw [qu] at h
      split at h
      ·rename_i row hrow
       split at h
       ·rename_i hc
        rw [beq_iff_eq] at hc
        refine ⟨_,h,fun Q hq => ?_⟩
        obtain ⟨hi,_⟩:=List.getElem?_eq_some_iff.1 hrow
        simp only [yD,jH,ht,hd,hei]
        exact ⟨⟨Int.natCast_nonneg i,Int.ofNat_lt.2 hi⟩,row,hrow,hc,hq⟩
       ·cases h
      ·cases h
    ·cases h
   ·rename_i n el hd
    split at h
    ·cases h
    ·rename_i hi
     rw [Nat.blt_eq] at hi
     have hb2:(0:Int)≤Int.ofNat i∧Int.ofNat i < (n:Int):=⟨Int.natCast_nonneg i,Int.ofNat_lt.2 hi⟩
     split at h
     ·cases h
     ·rename_i ei hei
      split at h
      ·rename_i b r j
       rw [EH.get_abs he] at h
       split at h
       ·rename_i rs g fz hb
        rw [qu] at h
        split at h
        ·rename_i row hrow
         split at h
         ·rename_i hc
          rw [Nat.blt_eq] at hc
          rw [qd] at h
          refine ⟨_,h,fun Q hq => ?_⟩
          simp only [yD,jH,ht,hd,hei,hb,hrow]
          exact ⟨hb2,hc,hq⟩
         ·cases h
        ·cases h
       ·cases h
      ·rw [qd] at h
       refine ⟨_,h,fun Q hq => ?_⟩
       simp only [yD,jH,ht,hd,hei]
       exact ⟨hb2,hq⟩
      ·rw [qd] at h
       refine ⟨_,h,fun Q hq => ?_⟩
       simp only [yD,var,ht,hd,hei]
       exact ⟨hb2,hq⟩
      ·cases h
   ·cases h
  ·cases h
def uaN (t:TypeId) (x ix:AV) (K:AV→Option R):Option R :=
 match ix with
 | .int _ (.ofNat i) =>
  match T t with
  | none=>none
  | some ti=>(match x with
   | .str s=>(match ti.desc with
    | .string=>(match zw s i with | some c=>gc c.toNat fun n=>K (.int .u8 (.ofNat n)) | none=>none)
    | _=>none)
   | .agg cs=>(match ti.desc with
    | .array n el=>(match Nat.blt i n with
     | false=>none
     | true=>(match T el with
      | none=>none
      | some ei=>(match gk ei cs (i * ei.size) with | some r=>fAV r K | none=>none)))
    | _=>none)
   | _=>none)
 | _=>none
theorem wbk {t:TypeId} {x ix:AV} {K:AV→Option R} {y:R} (h:uaN T t x ix K=some y):jD K y (xR T t x ix):=by
 unfold uaN at h
 split at h
 ·rename_i k i
  split at h
  ·cases h
  ·rename_i ti ht
   split at h
   ·rename_i s
    split at h
    ·rename_i hd
     rw [qu] at h
     split at h
     ·rename_i c hc
      rw [qd] at h
      refine ⟨_,h,fun Q hq => ?_⟩
      simp only [xR,ht,hd]
      exact ⟨Int.natCast_nonneg i,c,hc,hq⟩
     ·cases h
    ·cases h
   ·rename_i cs
    split at h
    ·rename_i n el hd
     split at h
     ·cases h
     ·rename_i hi
      rw [Nat.blt_eq] at hi
      split at h
      ·cases h
      ·rename_i ei hei
       split at h
       ·rename_i r hr
        rw [xj] at h
        refine ⟨_,h,fun Q hq => ?_⟩
        simp only [xR,ht,hd,hei]
        exact ⟨⟨Int.natCast_nonneg i,Int.ofNat_lt.2 hi⟩,r,hr,hq⟩
       ·cases h
    ·cases h
   ·cases h
 ·cases h
end ops
end
end Go.Abs

namespace Go.Abs
noncomputable section
variable [Gl]
section ops
variable {R:Type} (T:Tab)
def uz:Option AV→Nat→Option Nat
 | none,d=>some d
 | some (.int _ (.ofNat n)),_=>some n
 | _,_=>none
omit [Gl] in
theorem zF {o:Option AV} {l:Nat} (h:uz o 0=some l):gu o=some (l:Int):=by
 unfold uz at h
 split at h
 ·injection h with h;subst h;rfl
 ·injection h with h;subst h;rfl
 ·cases h
omit [Gl] in
theorem yF {o:Option AV} {n l:Nat} (h:uz o n=some l):gz n o=some (l:Int):=by
 unfold uz at h
 split at h
 ·injection h with h;subst h;rfl
 ·injection h with h;subst h;rfl
 ·cases h
def wa3 (s:List UInt8) (lo hi mx:Option AV) (K:AV→Option R):Option R :=
 match mx with
 | some _=>none
 | none =>
 match uz lo 0,uz hi s.length with
 | some l,some u=>(match Nat.ble l u && Nat.ble u s.length with
  | true=>wh ((s.take u).drop l) fun s=>K (.str s)
  | false=>none)
 | _,_=>none
def g7 (n:Nat):List (List AV)→Bool
 | []=>true
 | r :: l=>match zD r n with | true=>g7 n l | false=>false
omit [Gl] in
theorem jai {n:Nat}:∀ {l:List (List AV)},g7 n l=true→∀ r∈l,r.length=n
 | [],_,r,hr=>by cases hr
 | a :: l,h,r,hr=>by
  unfold g7 at h
  rw [yN] at h
  split at h
  ·rename_i hc
   rcases List.mem_cons.1 hr with rfl | hr
   ·simpa using hc
   ·exact jai h r hr
  ·cases h
def uav (c:Option Nat) (l:Nat) (k:Option Nat→Option R):Option R :=
 match c with
 | none=>k none
 | some c=>gc (c - l) fun c=>k (some c)
theorem jbu (c:Option Nat) (l:Nat) (k:Option Nat→Option R):uav c l k=k (c.map (· - l)):=by
 cases c <;> simp [uav,qd]
def xa3 (size:Nat) (es:List (List AV)) (capo:Option Nat) (lo hi mx:Option AV) (K:AV→Option R):Option R :=
 match g7 size es with
 | false=>none
 | true =>
 match uz lo 0,uz hi es.length with
 | some l,some u=>(match mx with
  | none=>(match Nat.ble l u && Nat.ble u es.length with
   | true=>wh ((es.take u).drop l) fun es=>uav capo l fun c=>K (.vs es c)
   | false=>none)
  | some (.int _ (.ofNat m))=>(match hi.isSome && Nat.ble l u && Nat.ble u m && Nat.ble m es.length with
   | true=>wh ((es.take u).drop l) fun es=>gc (m - l) fun c=>K (.vs es (some c))
   | false=>none)
  | _=>none)
 | _,_=>none
def va3 (lo hi mx:Option AV) (K:AV→Option R):Option R :=
 match uz lo 0,uz hi 0 with
 | some 0,some 0=>(match mx with
  | none=>K .nils
  | some (.int _ (.ofNat 0))=>(match hi.isSome with
   | true=>K .nils
   | false=>none)
  | _=>none)
 | _,_=>none
def ua3 (e:EH) (size b s len:Nat) (capo:Option Nat) (lo hi mx:Option AV) (K:AV→Option R):Option R :=
 match e.get b with
 | some (.rows rs _ _) =>
  (match g7 size rs with
  | false=>none
  | true =>
  match uz lo 0,uz hi len with
  | some l,some u=>(match mx with
   | none=>(match Nat.ble l u && Nat.ble u len with
    | true=>(match Nat.beq l 0 || Nat.blt l u with
     | true=>gc (s + l) fun s=>gc (u - l) fun n=>uav capo l fun c=>K (.ms b s n c)
     | false=>(match Nat.beq l u with
      | true=>(match capo with | none=>gc (s + l) fun s=>K (.ms b s 0 none) | some _=>K (.vs [] none))
      | false=>none))
    | false=>none)
   | some (.int _ (.ofNat m))=>(match hi.isSome && Nat.ble l u && Nat.ble u m && Nat.ble m len with
    | true=>(match Nat.beq l 0 || Nat.blt l m with
     | true=>gc (s + l) fun s=>gc (u - l) fun n=>gc (m - l) fun c=>K (.ms b s n (some c))
     | false=>(match Nat.beq l m with | true=>K (.vs [] (some 0)) | false=>none))
    | false=>none)
   | _=>none)
  | _,_=>none)
 | _=>none
def jaB (e:EH) (t:TypeId) (x:AV) (lo hi mx:Option AV) (K:AV→Option R):Option R :=
 match T t with
 | none=>none
 | some ti =>
  match ti.desc with
  | .string=>(match x with | .str s=>wa3 s lo hi mx K | _=>none)
  | .slice el=>(match T el with
   | none=>none
   | some ei=>(match x with
    | .vs es c=>xa3 ei.size es c lo hi mx K
    | .nils=>va3 lo hi mx K
    | .ms b s len c=>ua3 e ei.size b s len c lo hi mx K
    | _=>none))
  | _=>none
theorem ja3 {e:EH} (he:e.ok) {t:TypeId} {x:AV} {lo hi mx:Option AV} {K:AV→Option R} {y:R} (h:jaB T e t x lo hi mx K=some y):jD K y (vr T e.abs t x lo hi mx):=by
 unfold jaB at h
 split at h
 ·cases h
 ·rename_i ti ht
  split at h
  ·rename_i hd
   split at h
   ·rename_i s
    unfold wa3 at h
    split at h
    ·cases h
    ·split at h
     ·rename_i l u hl hu
      split at h
      ·rename_i hc
       rw [qe] at h
       simp only [Bool.and_eq_true,Nat.ble_eq] at hc
       refine ⟨_,h,fun Q hq => ?_⟩
       simp only [vr,ht,hd,zF hl,yF hu]
       exact ⟨⟨Int.natCast_nonneg l,Int.ofNat_le.2 hc.1,Int.ofNat_le.2 hc.2⟩,hq⟩
      ·cases h
     ·cases h
   ·cases h
  ·rename_i el hd
   split at h
   ·cases h
   ·rename_i ei hei
    split at h
    ·rename_i es capo
     unfold xa3 at h
     split at h
     ·cases h
     ·rename_i hall
      have hall:=jai hall
      split at h
      ·rename_i l u hl hu
       split at h
       ·split at h
        ·rename_i hc
         rw [qe,jbu] at h
         simp only [Bool.and_eq_true,Nat.ble_eq] at hc
         refine ⟨_,h,fun Q hq => ?_⟩
         simp only [vr,ht,hd,hei,zF hl,yF hu]
         exact ⟨⟨Int.natCast_nonneg l,Int.ofNat_le.2 hc.1,Int.ofNat_le.2 hc.2⟩,hall,hq⟩
        ·cases h
       ·rename_i k m
        split at h
        ·rename_i hc
         rw [qe,qd] at h
         simp only [Bool.and_eq_true,Nat.ble_eq] at hc
         obtain ⟨⟨⟨h1,h2⟩,h3⟩,h4⟩:=hc
         refine ⟨_,h,fun Q hq => ?_⟩
         simp only [vr,ht,hd,hei,zF hl,yF hu]
         exact ⟨h1,⟨Int.natCast_nonneg l,Int.ofNat_le.2 h2,Int.ofNat_le.2 h3,Int.ofNat_le.2 h4⟩,hall,hq⟩
        ·cases h
       ·cases h
      ·cases h
    ·unfold va3 at h
     split at h
     ·rename_i hl hu
      split at h
      ·refine ⟨_,h,fun Q hq => ?_⟩
       simp only [vr,ht,hd,hei,zF hl,yF hu]
       exact ⟨⟨rfl,rfl⟩,hq⟩
      ·split at h
       ·rename_i his
        refine ⟨_,h,fun Q hq => ?_⟩
        simp only [vr,ht,hd,hei,zF hl,yF hu]
        exact ⟨his,⟨rfl,rfl,rfl⟩,hq⟩
       ·cases h
      ·cases h
     ·cases h
    ·rename_i b s len capo
     unfold ua3 at h
     rw [EH.get_abs he] at h
     split at h
     ·rename_i rs g fz hb
      split at h
      ·cases h
      ·rename_i hall
       have hall:=jai hall
       split at h
       ·rename_i l u hl hu
        split at h
        ·split at h
         ·rename_i hc
          simp only [Bool.and_eq_true,Nat.ble_eq] at hc
          have hb3:(0:Int)≤l∧(l:Int)≤u∧(u:Int)≤len:=⟨Int.natCast_nonneg l,Int.ofNat_le.2 hc.1,Int.ofNat_le.2 hc.2⟩
          split at h
          ·rename_i hz
           rw [qd,qd,jbu] at h
           simp only [Bool.or_eq_true,Nat.beq_eq,Nat.blt_eq] at hz
           refine ⟨_,h,fun Q hq => ?_⟩
           simp only [vr,ht,hd,hei,zF hl,yF hu,hb]
           exact ⟨hb3,hall,.inl ⟨by omega,hq⟩⟩
          ·split at h
           ·rename_i hz
            rw [Nat.beq_eq] at hz
            split at h
            ·rw [qd] at h
             refine ⟨_,h,fun Q hq => ?_⟩
             simp only [vr,ht,hd,hei,zF hl,yF hu,hb]
             refine ⟨hb3,hall,.inl ⟨by omega,?_⟩⟩
             have e:(u:Int).toNat - (l:Int).toNat=0:=by omega
             rw [e];exact hq
            ·refine ⟨_,h,fun Q hq => ?_⟩
             simp only [vr,ht,hd,hei,zF hl,yF hu,hb]
             exact ⟨hb3,hall,.inr ⟨by omega,hq⟩⟩
           ·cases h
         ·cases h
        ·rename_i k m
         split at h
         ·rename_i hc
          simp only [Bool.and_eq_true,Nat.ble_eq] at hc
          obtain ⟨⟨⟨h1,h2⟩,h3⟩,h4⟩:=hc
          have hb3:(0:Int)≤l∧(l:Int)≤u∧(u:Int)≤m∧(m:Int)≤len:=⟨Int.natCast_nonneg l,Int.ofNat_le.2 h2,Int.ofNat_le.2 h3,Int.ofNat_le.2 h4⟩
          split at h
          ·rename_i hz
           rw [qd,qd,qd] at h
           simp only [Bool.or_eq_true,Nat.beq_eq,Nat.blt_eq] at hz
           refine ⟨_,h,fun Q hq => ?_⟩
           simp only [vr,ht,hd,hei,zF hl,yF hu,hb]
           exact ⟨h1,hb3,hall,.inl ⟨by rw [Int.ofNat_eq_natCast];omega,hq⟩⟩
          ·split at h
           ·rename_i hz
            rw [Nat.beq_eq] at hz
            refine ⟨_,h,fun Q hq => ?_⟩
            simp only [vr,ht,hd,hei,zF hl,yF hu,hb]
            exact ⟨h1,hb3,hall,.inr ⟨by rw [Int.ofNat_eq_natCast];omega,hq⟩⟩
           ·cases h
         ·cases h
        ·cases h
       ·cases h
     ·cases h
    ·cases h
  ·cases h
def gV (e:EH) (x:AV):Option (List (List AV)) :=
 match x with
 | .vs es _=>some es
 | .nils=>some []
 | .str s=>some (s.map fun c=>[.int .u8 c.toNat])
 | .ms b i len _=>(match e.get b with
  | some (.rows rs _ _)=>(match Nat.ble (i + len) rs.length with | true=>some ((rs.drop i).take len) | false=>none)
  | _=>none)
 | _=>none
theorem xam {e:EH} (he:e.ok) {x:AV} {new:List (List AV)} (h:gV e x=some new):jo e.abs x=some new:=by
 unfold gV at h
 split at h
 ·exact h
 ·exact h
 ·exact h
 ·rw [EH.get_abs he] at h
  split at h
  ·rename_i rs g fz hb
   split at h
   ·rename_i hc
    rw [Nat.ble_eq] at hc
    simp only [jo,hb]
    rw [if_pos hc];exact h
   ·cases h
  ·cases h
 ·cases h
def vF (size:Nat):List (List AV)→Bool
 | []=>true
 | r :: l=>match r.length == size && r.all okc with | true=>vF size l | false=>false
omit [Gl] in
theorem vJ {n:Nat}:∀ {l:List (List AV)},vF n l=true→∀ r∈l,r.length=n∧r.all okc=true
 | [],_,r,hr=>by cases hr
 | a :: l,h,r,hr=>by
  unfold vF at h
  split at h
  ·rename_i hc
   rcases List.mem_cons.1 hr with rfl | hr
   ·simpa using hc
   ·exact vJ h r hr
  ·cases h
def xaW (e:EH) (size bytes:Nat) (b i len:Nat) (capo:Option Nat) (rs:List (List AV)) (g:Bool) (new:List (List AV)) (nl:Nat) (K:AV→EH→Option R):Option R :=
 match vF size rs && Nat.ble ((len + nl) * bytes) 140737488355328 with
 | false=>none
 | true =>
 match capo with
 | none=>(match Nat.beq i 0 && Nat.blt 0 len && len == rs.length with
  | true=>wh (rs ++ new) fun rs=>e.put b (.rows rs true false) fun e=>gc (len + nl) fun l=>K (.ms b 0 l none) e
  | false=>none)
 | some c=>(match Nat.blt c (len + nl) with
  | true=>(match Nat.ble (i + len) rs.length with
   | true=>wh ((rs.drop i).take len ++ new) fun rs=>e.push (.rows rs true false) fun e'=>gc (len + nl) fun l=>K (.ms e.n 0 l none) e'
   | false=>none)
  | false=>(match g with
   | true=>none
   | false=>(match Nat.ble (i + len + nl) rs.length with
    | true=>wh (rs.take (i + len) ++ new ++ rs.drop (i + len + nl)) fun rs=>e.put b (.rows rs false false) fun e=>gc (len + nl) fun l=>K (.ms b i l (some c)) e
    | false=>none)))
def qO (e:EH) (t:TypeId) (s x:AV) (K:AV→EH→Option R):Option R :=
 match T t with
 | none=>none
 | some ti =>
 match ti.desc with
 | .slice el =>
  (match T el with
  | none=>none
  | some ei =>
   match gV e x with
   | none=>none
   | some new=>wh new fun new=>match Nat.blt 0 ei.size && Nat.blt 0 ei.bytes && vF ei.size new with
    | false=>none
    | true=>(match s with
     | .nils=>(match new with
      | []=>K .nils e
      | _ :: _=>(match Nat.ble (new.length * ei.bytes) 140737488355328 with
       | true=>e.push (.rows new true false) fun e'=>gc new.length fun l=>K (.ms e.n 0 l none) e'
       | false=>none))
     | .vs es capo=>(match new with
      | []=>K (.vs es capo) e
      | _ :: _=>(match capo with
       | none=>none
       | some c=>(match Nat.blt c (es.length + new.length) && vF ei.size es && Nat.ble ((es.length + new.length) * ei.bytes) 140737488355328 with
        | true=>wh (es ++ new) fun rs=>e.push (.rows rs true false) fun e'=>gc (es.length + new.length) fun l=>K (.ms e.n 0 l none) e'
        | false=>none)))
     | .ms b i len capo=>(match e.get b with
      | some (.rows rs g false)=>(match new with
       | []=>K (.ms b i len capo) e
       | _ :: _=>xaW e ei.size ei.bytes b i len capo rs g new new.length K)
      | _=>none)
     | _=>none))
 | _=>none
def vag (e:EH) (t:TypeId) (d x:AV) (K:AV→EH→Option R):Option R :=
 match T t with
 | none=>none
 | some ti=>match ti.desc with
  | .slice el=>(match T el with
   | none=>none
   | some ei=>(match d with
    | .ms b i len _=>(match e.get b with
     | some (.rows rs false false)=>(match uaa x with
      | none=>none
      | some l=>gc (min l len) fun n=>match gV e (wL n x) with
       | none=>none
       | some new=>(match Nat.beq new.length n && Nat.blt 0 ei.size && Nat.ble (i + len) rs.length && g7 ei.size rs && vF ei.size new with
        | false=>none
        | true=>match new with
         | []=>K (.int .i64 (.ofNat 0)) e
         | x :: new=>let new:=x :: new;wh (rs.take i ++ new ++ rs.drop (i + new.length)) fun rs=>e.put b (.rows rs false false) fun e=>K (.int .i64 (.ofNat n)) e))
     | _=>none)
    | _=>none))
  | _=>none
theorem gca {e:EH} (he:e.ok) {t:TypeId} {d x:AV} {K:AV→EH→Option R} {y:R} (h:vag T e t d x K=some y):wl K y (z6 T e.abs t d x):=by
 unfold vag at h
 split at h
 ·cases h
 rename_i ti ht
 split at h
 rotate_left
 ·cases h
 rename_i el hd
 split at h
 ·cases h
 rename_i ei hei
 split at h
 rotate_left
 ·cases h
 rename_i b i len capo
 rw [EH.get_abs he] at h
 split at h
 rotate_left
 ·cases h
 rename_i rs hb
 split at h
 ·cases h
 rename_i l hl
 rw [qd] at h
 split at h
 ·cases h
 rename_i new hnew
 have hnew:=xam he hnew
 split at h
 ·cases h
 rename_i hc
 simp only [Bool.and_eq_true,Nat.beq_eq,Nat.blt_eq,Nat.ble_eq] at hc
 obtain ⟨⟨⟨⟨h1,h2⟩,h4⟩,h5⟩,h6⟩:=hc
 split at h
 ·refine ⟨_,e,he,h,fun Q hq => ?_⟩
  simp only [z6,ht,hd,hei,hb,hl,hnew]
  exact ⟨⟨h1,h2,h4,jai h5,vJ h6⟩,hq⟩
 ·rw [qe] at h
  obtain ⟨e',g1,g2,g3⟩:=EH.put_ok he h
  refine ⟨_,e',g1,g3,fun Q hq => ?_⟩
  simp only [z6,ht,hd,hei,hb,hl,hnew]
  exact ⟨⟨h1,h2,h4,jai h5,vJ h6⟩,g2 ▸ hq⟩
def vM (r:AV) (e:EH) (K:AV→EH→Option R):Option R :=
 match r with
 | .ms b 0 n none=>(match e.get b with
  | some (.rows rs true false)=>(match n == rs.length with
   | true=>e.kill b fun e=>e.push (.rows rs false false) fun e'=>K (.ms e.n 0 n none) e'
   | false=>K r e)
  | _=>K r e)
 | _=>K r e
theorem wbe {r:AV} {e:EH} (he:e.ok) {K:AV→EH→Option R} {y:R} (h:vM r e K=some y):wl K y fun Q=>Q r e.abs∨vC e.abs r Q:=by
 have stay:K r e=some y→wl K y fun Q=>Q r e.abs∨vC e.abs r Q:=fun h=>⟨r,e,he,h,fun Q hq=>.inl hq⟩
 unfold vM at h
 split at h
 ·rename_i b n
  rw [EH.get_abs he] at h
  split at h
  ·rename_i rs hb
   split at h
   ·rename_i hn
    rw [beq_iff_eq] at hn
    obtain ⟨e1,k1,k2,k3,k4⟩:=EH.kill_ok he h
    obtain ⟨e2,m1,m2,m3⟩:=EH.push_ok k1 k4
    refine ⟨_,e2,m1,m3,fun Q hq=>.inr ?_⟩
    simp only [vC,hb]
    refine ⟨hn,?_⟩
    rw [EH.len he,← k3,← k2,← m2]
    exact hq
   ·exact stay h
  ·exact stay h
 ·exact stay h
theorem qbx {e:EH} (he:e.ok) {t:TypeId} {s x:AV} {K:AV→EH→Option R} {y:R} (h:qO T e t s x K=some y):wl K y (zr T e.abs t s x):=by
 unfold qO at h
 split at h
 ·cases h
 ·rename_i ti ht
  split at h
  ·rename_i el hd
   obtain ⟨d,sz,by',ze,cm⟩:=ti
   simp only at hd;subst hd
   split at h
   ·cases h
   ·rename_i ei hei
    split at h
    ·cases h
    ·rename_i new hnew
     rw [qe] at h
     have hnew:=xam he hnew
     split at h
     ·cases h
     ·rename_i hc
      simp only [Bool.and_eq_true,Nat.blt_eq] at hc
      obtain ⟨⟨hc1,hc2⟩,hc3⟩:=hc
      have hc3:=vJ hc3
      split at h
      ·split at h
       ·refine ⟨_,e,he,h,fun Q hq => ?_⟩
        simp only [zr,ht,hei,hnew,List.length_nil,if_true]
        exact ⟨⟨hc1,hc2⟩,hc3,hq⟩
       ·rename_i a l
        split at h
        ·rename_i hb
         rw [Nat.ble_eq] at hb
         obtain ⟨e',h1,h2,h3⟩:=EH.push_ok he h
         rw [qd] at h3
         refine ⟨_,e',h1,h3,fun Q hq => ?_⟩
         simp only [zr,ht,hei,hnew,EH.len he]
         rw [if_neg (by simp)]
         exact ⟨⟨hc1,hc2⟩,hc3,hb,h2 ▸ hq⟩
        ·cases h
      ·rename_i es capo
       split at h
       ·refine ⟨_,e,he,h,fun Q hq => ?_⟩
        simp only [zr,ht,hei,hnew,List.length_nil,if_true]
        exact ⟨⟨hc1,hc2⟩,hc3,hq⟩
       ·rename_i a l
        split at h
        ·cases h
        ·rename_i c
         split at h
         ·rename_i hb
          simp only [Bool.and_eq_true,Nat.ble_eq,Nat.blt_eq] at hb
          rw [qe] at h
          obtain ⟨e',h1,h2,h3⟩:=EH.push_ok he h
          rw [qd] at h3
          refine ⟨_,e',h1,h3,fun Q hq => ?_⟩
          simp only [zr,ht,hei,hnew,EH.len he]
          rw [if_neg (by simp)]
          exact ⟨⟨hc1,hc2⟩,hc3,⟨c,rfl,hb.1.1⟩,vJ hb.1.2,hb.2,h2 ▸ hq⟩
         ·cases h
      ·rename_i b i len capo
       rw [EH.get_abs he] at h
       split at h
       ·rename_i rs g hbl
        split at h
        ·refine ⟨_,e,he,h,fun Q hq => ?_⟩
         simp only [zr,ht,hei,hnew,hbl,List.length_nil,if_true]
         exact ⟨⟨hc1,hc2⟩,hc3,hq⟩
        ·rename_i a l
         unfold xaW at h
         split at h
         ·cases h
         ·rename_i hb
          simp only [Bool.and_eq_true,Nat.ble_eq] at hb
          have hgood:=vJ hb.1
          split at h
          ·split at h
           ·rename_i hz
            simp only [Bool.and_eq_true,Nat.beq_eq,Nat.blt_eq,beq_iff_eq] at hz
            rw [qe] at h
            obtain ⟨e',h1,h2,h3⟩:=EH.put_ok he h
            rw [qd] at h3
            refine ⟨_,e',h1,h3,fun Q hq => ?_⟩
            simp only [zr,ht,hei,hnew,hbl]
            rw [if_neg (by simp)]
            exact ⟨⟨hc1,hc2⟩,hc3,hgood,hb.2,⟨hz.1.1,hz.1.2,hz.2⟩,h2 ▸ hq⟩
           ·cases h
          ·rename_i c
           split at h
           ·rename_i hz
            rw [Nat.blt_eq] at hz
            split at h
            ·rename_i hz2
             rw [Nat.ble_eq] at hz2
             rw [qe] at h
             obtain ⟨e',h1,h2,h3⟩:=EH.push_ok he h
             rw [qd] at h3
             refine ⟨_,e',h1,h3,fun Q hq => ?_⟩
             simp only [zr,ht,hei,hnew,hbl,EH.len he]
             rw [if_neg (by simp)]
             exact ⟨⟨hc1,hc2⟩,hc3,hgood,hb.2,.inl ⟨hz,hz2,h2 ▸ hq⟩⟩
            ·cases h
           ·rename_i hz
            have hz:=(Bool.eq_false_iff.1 hz)
            rw [ne_eq,Nat.blt_eq] at hz
            split at h
            ·cases h
            ·split at h
             ·rename_i hz2
              rw [Nat.ble_eq] at hz2
              rw [qe] at h
              obtain ⟨e',h1,h2,h3⟩:=EH.put_ok he h
              rw [qd] at h3
              refine ⟨_,e',h1,h3,fun Q hq => ?_⟩
              simp only [zr,ht,hei,hnew,hbl]
              rw [if_neg (by simp)]
              exact ⟨⟨hc1,hc2⟩,hc3,hgood,hb.2,.inr ⟨by omega,trivial,hz2,h2 ▸ hq⟩⟩
             ·cases h
       ·cases h
      ·cases h
  ·cases h
def jaS (e:EH) (el:TypeId) (x:AV) (K:AV→EH→Option R):Option R :=
 match T el with
 | none=>none
 | some ei=>(match ei.desc with
  | .int .u8=>(match gV e x with
   | none=>none
   | some rows=>(match qaB x with
    | false=>none
    | true=>(match z7 rows with
     | some s=>wh s fun s=>K (.str s) e
     | none=>none)))
  | _=>none)
def qaS (e:EH) (el:TypeId) (s:List UInt8) (K:AV→EH→Option R):Option R :=
 match T el with
 | none=>none
 | some ei=>(match ei.desc with
  | .int .u8=>wh (s.map fun c=>[AV.int .u8 c.toNat]) fun rows=>K (.vs rows none) e
  | _=>none)
def uag (e:EH) (src dst:TypeId) (x:AV) (K:AV→EH→Option R):Option R :=
 match T src with
 | none=>none
 | some si=>(match T dst with
  | none=>none
  | some di=>(match di.desc with
   | .slice el=>(match si.desc with
    | .string=>(match x with | .str s=>qaS T e el s K | _=>none)
    | _=>none)
   | .string=>(match si.desc with
    | .slice el=>jaS T e el x K
    | _=>y6 T e src dst x K)
   | _=>y6 T e src dst x K))
theorem zbt {e:EH} (he:e.ok) {src dst:TypeId} {x:AV} {K:AV→EH→Option R} {y:R} (h:uag T e src dst x K=some y) :
  Quiet K e y fun Q=>jJ T e.abs src dst x Q∨xT T e.abs src dst x Q:=by
 have old:y6 T e src dst x K=some y→Quiet K e y fun Q=>jJ T e.abs src dst x Q∨xT T e.abs src dst x Q:=fun h=>by
  obtain ⟨r,h1,h2⟩:=ycb T h
  exact ⟨r,h1,fun Q hq=>.inl (h2 Q hq)⟩
 unfold uag at h
 split at h
 ·cases h
 ·rename_i si hs
  split at h
  ·cases h
  ·rename_i di hd
   split at h
   ·rename_i el hdd
    split at h
    ·rename_i hsd
     split at h
     ·rename_i s
      unfold qaS at h
      split at h
      ·cases h
      ·rename_i ei hei
       split at h
       ·rename_i hu
        rw [qe] at h
        refine ⟨_,h,fun Q hq=>.inr ?_⟩
        simp only [xT,hs,hd,hsd,hdd,hei]
        exact ⟨hu,hq⟩
       ·cases h
     ·cases h
    ·cases h
   ·rename_i hdd
    split at h
    ·rename_i el hsd
     unfold jaS at h
     split at h
     ·cases h
     ·rename_i ei hei
      split at h
      ·rename_i hu
       split at h
       ·cases h
       ·rename_i rows hrows
        split at h
        ·cases h
        ·rename_i hsl
         split at h
         ·rename_i s hby
          rw [qe] at h
          refine ⟨_,h,fun Q hq=>.inr ?_⟩
          simp only [xT,hs,hd,hsd,hdd,hei,xam he hrows]
          exact ⟨hu,hsl,s,hby,hq⟩
         ·cases h
      ·cases h
    ·exact old h
   ·exact old h
def uaL (e:EH) (t:TypeId) (x:AV) (K:AV→Option R):Option R :=
 match T t with
 | none=>none
 | some ti =>
  match ti.desc with
  | .string=>(match x with | .str s=>gc s.length fun n=>K (.int .i64 (.ofNat n)) | _=>none)
  | .array n _=>K (.int .i64 (.ofNat n))
  | .slice _=>(match x with
   | .vs es _=>gc es.length fun n=>K (.int .i64 (.ofNat n))
   | .ms b _ len _=>(match e.get b with | some (.rows _ _ _)=>K (.int .i64 (.ofNat len)) | _=>none)
   | .nils=>K (.int .i64 (.ofNat 0))
   | _=>none)
  | .map _ _=>(match x with
   | .mp b=>(match e.get b with | some (.mapb es)=>gc es.length fun n=>K (.int .i64 (.ofNat n)) | _=>none)
   | _=>none)
  | _=>none
theorem zbh {e:EH} (he:e.ok) {t:TypeId} {x:AV} {K:AV→Option R} {y:R} (h:uaL T e t x K=some y):jD K y (gC T e.abs t x):=by
 unfold uaL at h
 split at h
 ·cases h
 ·rename_i ti ht
  split at h
  ·rename_i hd
   split at h
   ·rw [qd] at h
    exact ⟨_,h,fun Q hq=>by simp only [gC,ht,hd];exact hq⟩
   ·cases h
  ·rename_i n el hd
   exact ⟨_,h,fun Q hq=>by simp only [gC,ht,hd];exact hq⟩
  ·rename_i el hd
   split at h
   ·rw [qd] at h
    exact ⟨_,h,fun Q hq=>by simp only [gC,ht,hd];exact hq⟩
   ·rw [EH.get_abs he] at h
    split at h
    ·rename_i hb
     exact ⟨_,h,fun Q hq=>by simp only [gC,ht,hd,hb];exact hq⟩
    ·cases h
   ·exact ⟨_,h,fun Q hq=>by simp only [gC,ht,hd];exact hq⟩
   ·cases h
  ·rename_i key el hd
   split at h
   ·rename_i b
    rw [EH.get_abs he] at h
    split at h
    ·rename_i es hb
     rw [qd] at h
     exact ⟨_,h,fun Q hq=>by simp only [gC,ht,hd,hb];exact hq⟩
    ·cases h
   ·cases h
  ·cases h
def eqI (a b:Int):Bool:=match a with | .ofNat a=>(match b with | .ofNat b=>Nat.beq a b | _=>false) | .negSucc a=>(match b with | .negSucc b=>Nat.beq a b | _=>false)
omit [Gl] in
theorem zbr (a b:Int):eqI a b=true↔a=b:=by
 cases a <;> cases b <;> simp [eqI,Nat.beq_eq] <;> omega
def gad (k:IntKind) (n:Int):List (AV × AV)→Nat→Option (Option (Nat × AV))
 | [],_=>some none
 | e :: es,i=>match e.1 with
  | .int k' a=>(match jj k k' with
   | true=>(match eqI n a with
    | true=>some (some (i,e.2))
    | false=>gad k n es (i + 1))
   | false=>none)
  | _=>none
theorem yaK {k:IntKind} {n:Int}:∀ (es:List (AV × AV)) (i:Nat),gad k n es i=gQ k n es i
 | [],_=>rfl
 | e :: es,i=>by
  unfold gad gQ
  rw [yaK es (i + 1)]
  cases hk:e.1 with
  | int k' a =>
   by_cases h1:k=k'
   ·have e1:jj k k'=true:=by simp [jj,h1]
    by_cases h2:n=a
    ·have e2:eqI n a=true:=(zbr n a).2 h2
     simp only [e1,e2,if_pos h1,if_pos h2]
    ·have e2:eqI n a=false:=by rw [← Bool.not_eq_true,zbr];exact h2
     simp only [e1,e2,if_pos h1,if_neg h2]
   ·have e1:jj k k'=false:=by simp [jj,h1]
    simp only [e1,if_neg h1]
  | _=>rfl
def qad (e:EH) (t:TypeId) (x ix:AV) (K:TypeId→IntKind→Int→Nat→List (AV × AV)→Option R):Option R :=
 match T t with
 | none=>none
 | some ti=>match ti.desc with
  | .map key el=>(match T key with
   | none=>none
   | some ki=>(match yR ki.desc with
    | false=>none
    | true=>(match ix with
     | .int k n=>(match x with
      | .mp b=>(match e.get b with
       | some (.mapb es)=>K el k n b es
       | _=>none)
      | _=>none)
     | _=>none)))
  | _=>none
theorem ubf {e:EH} (he:e.ok) {t:TypeId} {x ix:AV} {K:TypeId→IntKind→Int→Nat→List (AV × AV)→Option R} {y:R} (h:qad T e t x ix K=some y) :
  ∃ ti key el ki k n b es,T t=some ti∧ti.desc=.map key el∧T key=some ki∧yR ki.desc=true∧ix=.int k n∧x=.mp b∧e.abs.blk? b=some (.mapb es)∧K el k n b es=some y:=by
 unfold qad at h
 split at h
 ·cases h
 ·rename_i ti ht
  split at h
  ·rename_i key el hd
   split at h
   ·cases h
   ·rename_i ki hki
    split at h
    ·cases h
    ·rename_i hi
     split at h
     ·rename_i k n
      split at h
      ·rename_i b
       rw [EH.get_abs he] at h
       split at h
       ·rename_i es hb
        exact ⟨ti,key,el,ki,k,n,b,es,ht,hd,hki,hi,rfl,rfl,hb,h⟩
       ·cases h
      ·cases h
     ·cases h
  ·cases h
def jaK (e:EH) (t:TypeId) (x ix:AV) (comma:Bool) (K:AV→Option R):Option R :=
 qad T e t x ix fun el k n _ es=>match gad k n es 0 with
  | some (some r)=>(match comma with | true=>K (.tup [r.2,.bool true]) | false=>K r.2)
  | some none=>(match T el with
   | none=>none
   | some ei=>(match waj ei with
    | none=>none
    | some z=>(match comma with | true=>K (.tup [z,.bool false]) | false=>fAV z K)))
  | none=>none
theorem jbg {e:EH} (he:e.ok) {t:TypeId} {x ix:AV} {comma:Bool} {K:AV→Option R} {y:R} (h:jaK T e t x ix comma K=some y):jD K y (zN T e.abs t x ix comma):=by
 unfold jaK at h
 obtain ⟨ti,key,el,ki,k,n,b,es,h1,h2,h3,h4,rfl,rfl,h5,h⟩:=ubf T he h
 simp only [yaK] at h
 split at h
 ·rename_i r hf
  split at h
  ·exact ⟨_,h,fun Q hq=>by simp only [zN,h1,h2,h3,h5,hf];exact ⟨h4,hq⟩⟩
  ·exact ⟨_,h,fun Q hq=>by simp only [zN,h1,h2,h3,h5,hf];exact ⟨h4,hq⟩⟩
 ·rename_i hf
  split at h
  ·cases h
  ·rename_i ei hei
   split at h
   ·cases h
   ·rename_i z hz
    split at h
    ·exact ⟨_,h,fun Q hq=>by simp only [zN,h1,h2,h3,h5,hf,hei,hz];exact ⟨h4,hq⟩⟩
    ·rw [xj] at h
     exact ⟨_,h,fun Q hq=>by simp only [zN,h1,h2,h3,h5,hf,hei,hz];exact ⟨h4,hq⟩⟩
 ·cases h
def uad (e:EH) (t:TypeId) (x ix v:AV) (K:AV→EH→Option R):Option R :=
 qad T e t x ix fun _ k n b es=>match gad k n es 0 with
  | some o=>wh (jad es ix v o) fun es=>e.put b (.mapb es) (K .junk)
  | none=>none
theorem vbf {e:EH} (he:e.ok) {t:TypeId} {x ix v:AV} {K:AV→EH→Option R} {y:R} (h:uad T e t x ix v K=some y) :
  ∃ e',e'.ok∧K .junk e'=some y∧∀ Q:Heap→Prop,Q e'.abs→vad T e.abs t x ix v Q:=by
 unfold uad at h
 obtain ⟨ti,key,el,ki,k,n,b,es,h1,h2,h3,h4,rfl,rfl,h5,h⟩:=ubf T he h
 simp only [yaK] at h
 split at h
 ·rename_i o hf
  rw [qe] at h
  obtain ⟨e',g1,g2,g3⟩:=EH.put_ok he h
  exact ⟨e',g1,g3,fun Q hq=>by simp only [vad,h1,h2,h3,h5,hf];exact ⟨h4,g2 ▸ hq⟩⟩
 ·cases h
end ops
end
end Go.Abs
