/-
  Steps to a law of this program: AbsBridge, AbsText.
  Conditions: none.
-/
import Derived.Test.YtpdnijifmebnbaaGreatDoorB12
import Derived.Below
import Derived.Laws.StandIn
import Derived.Lib.LaidTab
import Derived.Lib.ItoaMem
set_option linter.unusedVariables false
set_option linter.unusedSimpArgs false
set_option linter.unusedSectionVars false
namespace Go.Abs
noncomputable section
section
variable [Gl]
omit [Gl] in
theorem Grows.of_below {w w':World} (h:RowKit.Below w.heap.size w w'):Grows w w':=⟨h.size,h.os,h.output,h.tape,h.block⟩
theorem zan {P:Program} {f:FuncId} {args:List AV} {r:AV} (ok:uT P f) (hp:Pure r)
  (h:∀ (F:Nat→Prop) (w:World) (vs:Array Value),GlobOK (qf F) w→TR (qf F) w args vs →
   ∃ v,(∀ w':World,VR (qf F) w' r v)∧Calls P f vs w fun e w'=>e=.returned v∧RowKit.Below w.heap.size w w'):zb P f args r :=
 ⟨ok,hp,fun F w vs _ hg ht cs=>by
  obtain ⟨v,hv,hc⟩:=h F w vs hg ht
  obtain ⟨e,w',fr,⟨rfl,hb⟩,h1,h2,h3⟩:=hc cs
  exact ⟨v,w',fr,hv w',.of_below hb,h1,h2,h3⟩⟩
theorem GlobOK.tab {E:Env} {w:World} (g:GlobOK E w) {P:Program} {name:String} {k:IntKind} {zs:List Int} {b:Nat} (hn:P.globalNamed name=some b)
  (hb:Gl.gl b=some (zs.map (AV.int k))):Lib.TabIs P w name k zs:=by
 obtain ⟨-,-,-,-,arr,el,fr,h4,h5,h6⟩:=g.ok b _ hb
 have e:arr=(zs.map fun z=>Value.int k z).toArray:=by
  refine Array.ext (by simpa using h5) fun i hi hj => ?_
  obtain ⟨v,v1,v2⟩:=h6 i (by simpa [h5] using hi)
  rw [Array.getElem?_eq_getElem hi] at v1
  injection v1 with v1
  rw [v1]
  simp only [List.getElem_map] at v2
  cases v2
  simp
 unfold Lib.TabIs World.var?
 rw [hn]
 simp only [Option.bind_some,h4,e]
end
def qr:Nat→Nat→List UInt8→List UInt8
 | 0,_,acc=>acc
 | k + 1,n,acc=>match Nat.ble n 9 with
  | true=>UInt8.ofNat (Nat.add 48 n) :: acc
  | false=>qr k (Nat.div n 10) (UInt8.ofNat (Nat.add 48 (Nat.mod n 10)) :: acc)
theorem gau:∀ (k n:Nat) (acc:List UInt8),n < 10 ^ (k + 1)→qr (k + 1) n acc=Lib.decDigits n ++ acc
 | k,n,acc,h=>by
  unfold qr
  rw [Lib.decDigits]
  by_cases h9:n < 10
  ·rw [dif_pos h9,show Nat.ble n 9=true from Nat.ble_eq_true_of_le (by omega)]
   rfl
  ·rw [dif_neg h9,show Nat.ble n 9=false from by rw [← Bool.not_eq_true];exact fun e=>h9 (by have:=Nat.le_of_ble_eq_true e;omega)]
   cases k with
   | zero=>omega
   | succ k =>
    show qr (k + 1) (n / 10) _=_
    rw [gau k (n / 10) _ (by rw [Nat.pow_succ] at h;omega),List.append_assoc]
    rfl
def wae:Int→List UInt8
 | .ofNat n=>qr 20 n []
 | .negSucc n=>45 :: qr 20 (Nat.succ n) []
def uar:Int→Bool
 | .ofNat n=>Nat.ble n 9223372036854775807
 | .negSucc n=>Nat.ble n 9223372036854775807
theorem jb1 {n:Int} (h:uar n=true):wae n=Lib.itoa n ∧ -9223372036854775808≤n∧n≤9223372036854775807:=by
 cases n with
 | ofNat n =>
  have h':n≤9223372036854775807:=Nat.le_of_ble_eq_true h
  refine ⟨?_,by simp only [Int.ofNat_eq_natCast];omega,by simp only [Int.ofNat_eq_natCast];omega⟩
  simp only [wae,Int.ofNat_eq_natCast]
  rw [Lib.itoa_nonneg,gau 19 n [] (by omega),List.append_nil]
 | negSucc n =>
  have h':n≤9223372036854775807:=Nat.le_of_ble_eq_true h
  refine ⟨?_,by omega,by omega⟩
  show 45 :: qr 20 (Nat.succ n) []=_
  rw [show Int.negSucc n = -((n + 1:Nat):Int) from rfl,Lib.itoa_neg _ (by omega),gau 19 (n + 1) [] (by omega),List.append_nil]
def gY (c:Nat):List UInt8→Nat→Int
 | [],_ => -1
 | x :: l,i=>match Nat.beq x.toNat c with | true=>.ofNat i | false=>gY c l (i + 1)
theorem yb3 {c:Nat} (hc:c < 256) (s:List UInt8):gY c s 0=firstIdx ⟨s.toArray⟩ c.toUInt8:=by
 have key:∀ (l:List UInt8) (i:Nat),s.drop i=l→gY c l i=match (List.range' i l.length).find? fun j=>(⟨s.toArray⟩:ByteArray)[j]! == c.toUInt8 with | some j=>(j:Int) | none => -1:=by
  intro l
  induction l with
  | nil=>intro i _;rfl
  | cons x l ih =>
   intro i hi
   have hlt:i < s.length:=by
    rcases Nat.lt_or_ge i s.length with h | h
    ·exact h
    ·rw [List.drop_eq_nil_of_le h] at hi;cases hi
   have hx:s[i]=x∧s.drop (i + 1)=l:=by
    rw [List.drop_eq_getElem_cons hlt] at hi
    injection hi with h1 h2;exact ⟨h1,h2⟩
   have e:((⟨s.toArray⟩:ByteArray)[i]! == c.toUInt8)=Nat.beq x.toNat c:=by
    have e1:(⟨s.toArray⟩:ByteArray)[i]! = x:=by
     rw [getElem!_pos _ _ (by simpa [ByteArray.size] using hlt)]
     exact hx.1
    rw [e1]
    have e2:(c.toUInt8).toNat=c:=by simp [Nat.toUInt8];omega
    cases hb:Nat.beq x.toNat c with
    | true =>
     have:=Nat.eq_of_beq_eq_true hb
     rw [beq_iff_eq];exact UInt8.toNat_inj.1 (this.trans e2.symm)
    | false =>
     have:=Nat.ne_of_beq_eq_false hb
     rw [beq_eq_false_iff_ne];intro h;exact this (by rw [h,e2])
   rw [List.length_cons,List.range'_succ,List.find?_cons,e]
   unfold gY
   cases Nat.beq x.toNat c with
   | true=>rfl
   | false=>exact ih (i + 1) hx.2
 rw [key s 0 rfl,firstIdx,List.range_eq_range']
 rfl
end
end Go.Abs

namespace Go.Abs
noncomputable section
def gbk:List AV→Option AV
 | [.str s,.int .u8 (.ofNat c)]=>match Nat.ble c 255 with
  | true=>some (.int .i64 (gY c s 0))
  | false=>none
 | _=>none
theorem gaj {E:Env} {w:World} {vs:Array Value} (h:TR E w [] vs):vs = #[]:=Array.eq_empty_of_size_eq_zero h.size.symm
theorem xU {E:Env} {w:World} {x:AV} {xs:List AV} {vs:Array Value} (h:TR E w (x :: xs) vs):∃ v vs',vs = #[v] ++ vs'∧VR E w x v∧TR E w xs vs':=by
 obtain ⟨l⟩:=vs
 obtain ⟨hs,hv⟩:=h
 cases l with
 | nil=>cases hs
 | cons v l =>
  refine ⟨v,⟨l⟩,by simp,?_,by simpa using hs,fun i hi hj => ?_⟩
  ·exact hv 0 (by simp) (by simp)
  ·exact hv (i + 1) (by simpa using hi) (by simpa using hj)
def xae:List AV→Option AV
 | [.int .i64 n]=>match uar n with
  | true=>some (.str (wae n))
  | false=>none
 | _=>none
def jan (x:Nat) (acc:List UInt8):List UInt8:=List.replicate (9 - (qr 20 x []).length) 48 ++ qr 20 x acc
def gT:List Nat→List UInt8→List UInt8
 | [],acc=>acc
 | [x],acc=>qr 20 x acc
 | x :: y :: l,acc=>gT (y :: l) (jan x acc)
def uaq:List (List AV)→Option (List Nat)
 | []=>some []
 | [.int .u32 (.ofNat n)] :: l=>match Nat.ble n 999999999 with
  | true=>match uaq l with
   | some r=>some (n :: r)
   | none=>none
  | false=>none
 | _=>none
def xaa:List AV→Option AV
 | [.agg [.bool _,.nils]]=>some (.str [48])
 | [.agg [.bool _,.vs [] _]]=>some (.str [48])
 | [.agg [.bool neg,.vs es _]]=>match Nat.ble es.length 1000,uaq es with
  | true,some l=>some (.str (match neg with | true=>45 :: gT l [] | false=>gT l []))
  | _,_=>none
 | _=>none
theorem gbg:∀ (es:List (List AV)) (l:List Nat),uaq es=some l→l.length=es.length∧∀ (i:Nat) (hi:i < es.length) (hj:i < l.length),es[i]=[.int .u32 (l[i]:Int)]∧l[i] < 1000000000
 | [],l,h=>by
  injection h with h;subst h
  exact ⟨rfl,fun i hi=>by simp at hi⟩
 | e :: es,l,h=>by
  unfold uaq at h
  split at h
  ·rename_i heq;cases heq
  ·rename_i n l' heq
   injection heq with e1 e2;subst e1;subst e2
   split at h
   ·rename_i hn
    have hn':=Nat.le_of_ble_eq_true hn
    split at h
    ·rename_i r hr
     injection h with h;subst h
     obtain ⟨a,b⟩:=gbg _ _ hr
     refine ⟨by simp [a],fun i hi hj => ?_⟩
     cases i with
     | zero=>exact ⟨rfl,by show n < _;omega⟩
     | succ i=>exact b i (by simpa using hi) (by simpa using hj)
    ·cases h
   ·cases h
  ·cases h
theorem qaR (x:Nat) (acc:List UInt8) (h:x < 1000000000):qr 20 x acc=Lib.itoa (x:Int) ++ acc:=by
 rw [gau 19 x acc (by omega),Lib.itoa_nonneg]
end
end Go.Abs
