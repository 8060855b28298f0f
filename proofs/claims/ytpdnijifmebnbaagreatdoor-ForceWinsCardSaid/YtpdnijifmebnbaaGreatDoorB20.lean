/-
  Steps to a law of this program: SText.
  Conditions: none.
-/
import Derived.Test.YtpdnijifmebnbaaGreatDoorB19
import Derived.WalkKit
import Derived.BigCall
import Derived.Lib.AppendIntMem
set_option linter.unusedVariables false
set_option linter.unusedSimpArgs false
set_option linter.unusedSectionVars false
namespace Go.Proofs
open Go.RowKit
def xP (len:Nat) (xs:Nat→Nat) (i:Nat):List UInt8 :=
 (if i + 1 < len then List.replicate (9 - (Lib.itoa (xs i:Int)).length) 48 else []) ++ Lib.itoa (xs i:Int)
def uk (len:Nat) (xs:Nat→Nat):Nat→Nat→List UInt8
 | 0,_=>[]
 | n + 1,k=>uk len xs n (k + 1) ++ xP len xs k
def yL (neg:Bool) (len:Nat) (xs:Nat→Nat):List UInt8:=(if neg then [45] else []) ++ uk len xs len 0
theorem qbw {T e:TypeId} {B b:Nat} {bs:List Value} {w w':World} (h:Lib.IsBuilder T e B b bs w) (hb:Below w.heap.size w w'):Lib.IsBuilder T e B b bs w':=by
 have at':∀ p,Lib.BuilderAt T e B b p bs w→Lib.BuilderAt T e B b p bs w':=fun p h=>by
  have hlt:=h.lt
  obtain ⟨hB,v,hc,hown,hne⟩:=h
  refine ⟨hB,v,(hb.block b hlt).trans hc,?_,hne⟩
  obtain ⟨h1,h2⟩:=hown
  refine ⟨h1,h2.imp id ?_⟩
  rintro ⟨g,cap,cur,e1,e2,e3,rest⟩
  have hg:g < w.heap.size:=by
   rcases Nat.lt_or_ge g w.heap.size with h | h
   ·exact h
   ·rw [Array.getElem?_eq_none h] at e3;cases e3
  exact ⟨g,cap,cur,e1,e2,(hb.block g hg).trans e3,rest⟩
 exact h.imp (at' _) (at' _)
theorem va1 {name:String} {k:IntKind} {zs:List Int} {w w':World} (h:Lib.TabIs Tryz.prog w name k zs) (hb:Below w.heap.size w w'):Lib.TabIs Tryz.prog w' name k zs:=by
 unfold Lib.TabIs World.var? at *
 cases hg:Tryz.prog.globalNamed name with
 | none=>rw [hg] at h;cases h
 | some g =>
  rw [hg] at h
  simp only [Option.bind_some] at h ⊢
  have hlt:g < w.heap.size:=by
   rcases Nat.lt_or_ge g w.heap.size with hh | hh
   ·exact hh
   ·rw [Array.getElem?_eq_none hh] at h;cases h
  rw [hb.block g hlt]
  exact h
theorem qbj (n:Nat) (h:n < 1000000000):(Lib.itoa (n:Int)).length≤9:=by
 rw [Lib.itoa_nonneg,Lib.decDigits_length]
 have key:∀ k u:Nat,u < 10 ^ (k + 1)→Lib.nDigits u≤k + 1:=fun k=>by
  induction k with
  | zero=>intro u hu;rw [Lib.nDigits_small (by simpa using hu)];exact Nat.le_refl _
  | succ k ih =>
   intro u hu
   by_cases h10:u < 10
   ·rw [Lib.nDigits_small h10];omega
   ·rw [Lib.nDigits_big h10]
    have:=ih (u / 10) (Nat.div_lt_of_lt_mul (by rw [Nat.pow_succ] at hu;omega))
    omega
 exact key 8 n (by simpa using h)
theorem zaH:∀ n,n≤9→Lib.strCells (ByteArray.extract ⟨#[48,48,48,48,48,48,48,48,48]⟩ n 9)=Lib.byteCells (List.replicate (9 - n) 48):=by
 intro n hn
 have:n=0∨n=1∨n=2∨n=3∨n=4∨n=5∨n=6∨n=7∨n=8∨n=9:=by omega
 rcases this with rfl | rfl | rfl | rfl | rfl | rfl | rfl | rfl | rfl | rfl <;> rfl
theorem xba (n:Nat) (hn:n≤9):(ByteArray.extract ⟨#[48,48,48,48,48,48,48,48,48]⟩ n 9).size=9 - n:=by
 have h:=congrArg List.length (zaH n hn)
 rw [Lib.strCells_length,Lib.byteCells_length,List.length_replicate] at h
 exact h
set_option maxHeartbeats 1000000 in
set_option maxRecDepth 100000 in
theorem jbD (Bk off len cap:Nat) (xs:Nat→Nat) (w:World) (hl:0 < len) (hlb:len≤1000000000000) (hBk:Bk < w.heap.size) (hx:∀ i,i < len→xs i < 1000000000)
  (hc:∀ i,i < len→w.cell? ⟨Bk,off + i,none⟩=some (.int .u32 (xs i:Int)))
  (htab:Lib.TabIs Tryz.prog w "internal/strconv.uint64pow10" .u64 Lib.pow10Tab) :
  Calls Tryz.prog 131 #[.agg #[.bool false,.slice (some ⟨Bk,off,none⟩) len cap]] w fun e w'=>e=.returned (.string ⟨(yL false len xs).toArray⟩)∧Below w.heap.size w w':=by
 have h0:((len:Int) == 0)=false:=by simp;omega
 have H0:=Lib.hid h0
 go_enter Tryz.func131,Tryz.ntmps131
 go_wp2
 go_loopw [4] (fun i wr=>∃ k:Nat,k≤len∧i=.int .i64 ((k:Int) - 1)∧Lib.IsBuilder 206 5 (w.heap.size + 1) (w.heap.size + 1) (Lib.byteCells (uk len xs (len - k) k)) wr∧(uk len xs (len - k) k).length≤20 * (len - k) ∧
   Below (w.heap.size + 1) (w.alloc (.cells #[.bool false,.slice (some ⟨Bk,off,none⟩) len cap] 176)) wr) (fun i _=>(intOf i + 1).toNat)
 case atStart =>
  refine ⟨len,Nat.le_refl _,rfl,?_,by simp [uk],?_⟩
  ·have:=Lib.fresh_isBuilder 206 5 (w.alloc (.cells #[.bool false,.slice (some ⟨Bk,off,none⟩) len cap] 176))
   simpa [uk,Lib.byteCells] using this
  ·exact (Below.refl _ _).alloc (by simp) _
 case round =>
  obtain ⟨k,hk,rfl,hI,hlen,hbw⟩:=hrel
  have hbox1:wr.cell? ⟨w.heap.size,1,none⟩=some (.slice (some ⟨Bk,off,none⟩) len cap):=by
   rw [hbw.cell (p:=⟨w.heap.size,1,none⟩) (by simp)]
   simp
  have hbw0:Below w.heap.size w wr:=((Below.refl _ w).alloc (Nat.le_refl _) _).trans (hbw.mono (by omega))
  have hsz:w.heap.size + 1≤wr.heap.size:=by have:=hbw.size;simpa using this
  by_cases hk0:k=0
  ·subst hk0
   have hfin:uk len xs len 0=yL false len xs:=by simp [yL]
   have HF:=Lib.hid hfin
   clear hfin
   go_wp2_with (go_at_call 151;refine (Tryz.Builder_String_any (w.heap.size + 1) (w.heap.size + 1) _ _ hI hsz).mono ?_)
   rintro e W1 ⟨rfl,b1⟩
   go_wp2
   go_ret
   rw [← HF.out]
   exact ⟨rfl,hbw0.trans (b1.mono (by omega))⟩
  ·obtain ⟨j,rfl⟩:∃ j,k=j + 1:=⟨k - 1,by omega⟩
   have hxj:=hx j (by omega)
   have hcell:wr.cell? ⟨Bk,off + j,none⟩=some (.int .u32 (xs j:Int)):=by
    exact (hbw0.cell (p:=⟨Bk,off + j,none⟩) hBk).trans (hc j (by omega))
   have htab':=va1 htab hbw0
   go_wp2_with (go_at_call 75;refine (Tryz.strconv_Itoa _ (by omega) (by omega) _ htab').mono ?_)
   rintro e W1 ⟨rfl,kk,os,rfl⟩
   have hg:Below wr.heap.size wr (Sort.grow (wr.drewN kk) os):=Lib.below_grow _ _ (Nat.le_refl _) kk os
   generalize Sort.grow (wr.drewN kk) os=W1 at hg ⊢
   have hbox2:W1.cell? ⟨w.heap.size,1,none⟩=some (.slice (some ⟨Bk,off,none⟩) len cap):=(hg.cell (p:=⟨w.heap.size,1,none⟩) (by show w.heap.size < _;omega)).trans hbox1
   have hI1:=qbw hI hg
   have hbw1:=hbw.trans (hg.mono hsz)
   have hsz1:w.heap.size + 1≤W1.heap.size:=by have:=hg.size;omega
   clear hbox1 hcell htab' hI hbw0 hg hbw
   have hL:=qbj (xs j) hxj
   generalize hs0:Lib.itoa (xs j:Int)=s0 at hL ⊢
   have hpc:uk len xs (len - j) j=uk len xs (len - (j + 1)) (j + 1) ++ ((if j + 1 < len then List.replicate (9 - s0.length) 48 else []) ++ s0):=by
    have e:len - j=(len - (j + 1)) + 1:=by omega
    rw [e]
    simp only [uk,xP,hs0]
   have HP:=Lib.hid hpc
   clear hpc hs0
   generalize uk len xs (len - (j + 1)) (j + 1)=acc at hI1 hlen HP
   have hL0:(0:Int)≤(s0.length:Int):=Int.natCast_nonneg _
   have hL9:(s0.length:Int)≤9:=by omega
   by_cases hjl:j + 1 < len
   ·have hjl':(j:Int) < (len:Int) - 1:=by omega
    have hz:(Lib.byteCells acc).length + (9 - s0.length)≤140737488355328:=by rw [Lib.byteCells_length];omega
    go_wp2_with fail
    refine (Tryz.Builder_WriteString (w.heap.size + 1) (w.heap.size + 1) _ _ _ hI1 (by rw [xba _ hL];exact hz) hsz1).mono ?_
    rintro e W2 ⟨rfl,h1,b1⟩
    rw [zaH _ hL,← Lib.byteCells_append] at h1
    have hI2:Lib.IsBuilder 206 5 (w.heap.size + 1) (w.heap.size + 1) _ W2:=Or.inr h1
    have hsz2:w.heap.size + 1≤W2.heap.size:=by have:=b1.size;omega
    clear h1
    go_wp2_with fail
    refine (Tryz.Builder_WriteString (w.heap.size + 1) (w.heap.size + 1) _ _ _ hI2 (by rw [Lib.byteCells_length,List.length_append,List.length_replicate];have:(⟨s0.toArray⟩:ByteArray).size=s0.length:=rfl;omega) hsz2).mono ?_
    rintro e W3 ⟨rfl,h2,b2⟩
    go_wp2
    go_roundw
    case rel =>
     refine ⟨j,by omega,by first | rfl | (congr 1;omega),?_,?_,hbw1.trans (b1.trans b2)⟩
     ·rw [HP.out,if_pos hjl]
      rw [Lib.strCells_eq,← Lib.byteCells_append] at h2
      rw [List.append_assoc] at h2
      exact Or.inr h2
     ·rw [HP.out,if_pos hjl]
      simp only [List.length_append,List.length_replicate]
      omega
    case measure=>simp [intOf]
   ·have hjl':¬ (j:Int) < (len:Int) - 1:=by omega
    have hz:(Lib.byteCells acc).length + s0.length≤140737488355328:=by rw [Lib.byteCells_length];omega
    go_wp2_with fail
    refine (Tryz.Builder_WriteString (w.heap.size + 1) (w.heap.size + 1) _ _ _ hI1 (by have:(⟨s0.toArray⟩:ByteArray).size=s0.length:=rfl;omega) hsz1).mono ?_
    rintro e W3 ⟨rfl,h2,b2⟩
    go_wp2
    go_roundw
    case rel =>
     refine ⟨j,by omega,by first | rfl | (congr 1;omega),?_,?_,hbw1.trans b2⟩
     ·rw [HP.out,if_neg hjl]
      rw [Lib.strCells_eq,← Lib.byteCells_append] at h2
      exact Or.inr h2
     ·rw [HP.out,if_neg hjl]
      simp only [List.length_append,List.length_nil]
      omega
    case measure=>simp [intOf]
set_option maxHeartbeats 1000000 in
set_option maxRecDepth 100000 in
theorem gbD (Bk off len cap:Nat) (xs:Nat→Nat) (w:World) (hl:0 < len) (hlb:len≤1000000000000) (hBk:Bk < w.heap.size) (hx:∀ i,i < len→xs i < 1000000000)
  (hc:∀ i,i < len→w.cell? ⟨Bk,off + i,none⟩=some (.int .u32 (xs i:Int)))
  (htab:Lib.TabIs Tryz.prog w "internal/strconv.uint64pow10" .u64 Lib.pow10Tab) :
  Calls Tryz.prog 131 #[.agg #[.bool true,.slice (some ⟨Bk,off,none⟩) len cap]] w fun e w'=>e=.returned (.string ⟨(yL true len xs).toArray⟩)∧Below w.heap.size w w':=by
 have h0:((len:Int) == 0)=false:=by simp;omega
 have H0:=Lib.hid h0
 go_enter Tryz.func131,Tryz.ntmps131
 go_wp2_with fail
 have hfr:=Lib.fresh_isBuilder 206 5 (w.alloc (.cells #[.bool true,.slice (some ⟨Bk,off,none⟩) len cap] 176))
 have hfr2:Lib.IsBuilder 206 5 (w.heap.size + 1) (w.heap.size + 1) [] ((w.alloc (.cells #[.bool true,.slice (some ⟨Bk,off,none⟩) len cap] 176)).alloc (.cells #[.pointer none,.slice none 0 0] 206)):=by simpa using hfr
 refine (Tryz.Builder_WriteByte (w.heap.size + 1) (w.heap.size + 1) [] 45 _ hfr2 (by simp) (by simp)).mono ?_
 rintro e W0 ⟨rfl,h45,b45⟩
 have hB0:Below (w.heap.size + 1) (w.alloc (.cells #[.bool true,.slice (some ⟨Bk,off,none⟩) len cap] 176)) W0:=((Below.refl _ _).alloc (by simp) _).trans b45
 have hI0:Lib.IsBuilder 206 5 (w.heap.size + 1) (w.heap.size + 1) (Lib.byteCells [45]) W0:=Or.inr (by simpa [Lib.byteCells] using h45)
 have hb0:W0.cell? ⟨w.heap.size,1,none⟩=some (.slice (some ⟨Bk,off,none⟩) len cap):=by
  rw [hB0.cell (p:=⟨w.heap.size,1,none⟩) (by simp)]
  simp
 clear h45 hfr hfr2 b45
 go_wp2
 go_loopw [4] (fun i wr=>∃ k:Nat,k≤len∧i=.int .i64 ((k:Int) - 1)∧Lib.IsBuilder 206 5 (w.heap.size + 1) (w.heap.size + 1) (Lib.byteCells (45 :: uk len xs (len - k) k)) wr∧(uk len xs (len - k) k).length≤20 * (len - k) ∧
   Below (w.heap.size + 1) (w.alloc (.cells #[.bool true,.slice (some ⟨Bk,off,none⟩) len cap] 176)) wr) (fun i _=>(intOf i + 1).toNat)
 case atStart =>
  refine ⟨len,Nat.le_refl _,rfl,?_,by simp [uk],hB0⟩
  simpa [uk] using hI0
 case round =>
  obtain ⟨k,hk,rfl,hI,hlen,hbw⟩:=hrel
  have hbox1:wr.cell? ⟨w.heap.size,1,none⟩=some (.slice (some ⟨Bk,off,none⟩) len cap):=by
   rw [hbw.cell (p:=⟨w.heap.size,1,none⟩) (by simp)]
   simp
  have hbw0:Below w.heap.size w wr:=((Below.refl _ w).alloc (Nat.le_refl _) _).trans (hbw.mono (by omega))
  have hsz:w.heap.size + 1≤wr.heap.size:=by have:=hbw.size;simpa using this
  by_cases hk0:k=0
  ·subst hk0
   have hfin:45 :: uk len xs len 0=yL true len xs:=by simp [yL]
   have HF:=Lib.hid hfin
   clear hfin
   go_wp2_with (go_at_call 151;refine (Tryz.Builder_String_any (w.heap.size + 1) (w.heap.size + 1) _ _ hI hsz).mono ?_)
   rintro e W1 ⟨rfl,b1⟩
   go_wp2
   go_ret
   rw [← HF.out]
   exact ⟨rfl,hbw0.trans (b1.mono (by omega))⟩
  ·obtain ⟨j,rfl⟩:∃ j,k=j + 1:=⟨k - 1,by omega⟩
   have hxj:=hx j (by omega)
   have hcell:wr.cell? ⟨Bk,off + j,none⟩=some (.int .u32 (xs j:Int)):=by
    exact (hbw0.cell (p:=⟨Bk,off + j,none⟩) hBk).trans (hc j (by omega))
   have htab':=va1 htab hbw0
   go_wp2_with (go_at_call 75;refine (Tryz.strconv_Itoa _ (by omega) (by omega) _ htab').mono ?_)
   rintro e W1 ⟨rfl,kk,os,rfl⟩
   have hg:Below wr.heap.size wr (Sort.grow (wr.drewN kk) os):=Lib.below_grow _ _ (Nat.le_refl _) kk os
   generalize Sort.grow (wr.drewN kk) os=W1 at hg ⊢
   have hbox2:W1.cell? ⟨w.heap.size,1,none⟩=some (.slice (some ⟨Bk,off,none⟩) len cap):=(hg.cell (p:=⟨w.heap.size,1,none⟩) (by show w.heap.size < _;omega)).trans hbox1
   have hI1:=qbw hI hg
   have hbw1:=hbw.trans (hg.mono hsz)
   have hsz1:w.heap.size + 1≤W1.heap.size:=by have:=hg.size;omega
   clear hbox1 hcell htab' hI hbw0 hg hbw
   have hL:=qbj (xs j) hxj
   generalize hs0:Lib.itoa (xs j:Int)=s0 at hL ⊢
   have hpc:uk len xs (len - j) j=uk len xs (len - (j + 1)) (j + 1) ++ ((if j + 1 < len then List.replicate (9 - s0.length) 48 else []) ++ s0):=by
    have e:len - j=(len - (j + 1)) + 1:=by omega
    rw [e]
    simp only [uk,xP,hs0]
   have HP:=Lib.hid hpc
   clear hpc hs0
   generalize uk len xs (len - (j + 1)) (j + 1)=acc at hI1 hlen HP
   have hL0:(0:Int)≤(s0.length:Int):=Int.natCast_nonneg _
   have hL9:(s0.length:Int)≤9:=by omega
   by_cases hjl:j + 1 < len
   ·have hjl':(j:Int) < (len:Int) - 1:=by omega
    have hz:(Lib.byteCells (45 :: acc)).length + (9 - s0.length)≤140737488355328:=by rw [Lib.byteCells_length,List.length_cons];omega
    go_wp2_with fail
    refine (Tryz.Builder_WriteString (w.heap.size + 1) (w.heap.size + 1) _ _ _ hI1 (by rw [xba _ hL];exact hz) hsz1).mono ?_
    rintro e W2 ⟨rfl,h1,b1⟩
    rw [zaH _ hL,← Lib.byteCells_append] at h1
    have hI2:Lib.IsBuilder 206 5 (w.heap.size + 1) (w.heap.size + 1) _ W2:=Or.inr h1
    have hsz2:w.heap.size + 1≤W2.heap.size:=by have:=b1.size;omega
    clear h1
    go_wp2_with fail
    refine (Tryz.Builder_WriteString (w.heap.size + 1) (w.heap.size + 1) _ _ _ hI2 (by rw [Lib.byteCells_length,List.length_append,List.length_cons,List.length_replicate];have:(⟨s0.toArray⟩:ByteArray).size=s0.length:=rfl;omega) hsz2).mono ?_
    rintro e W3 ⟨rfl,h2,b2⟩
    go_wp2
    go_roundw
    case rel =>
     refine ⟨j,by omega,by first | rfl | (congr 1;omega),?_,?_,hbw1.trans (b1.trans b2)⟩
     ·rw [HP.out,if_pos hjl]
      rw [Lib.strCells_eq,← Lib.byteCells_append] at h2
      rw [List.append_assoc] at h2
      exact Or.inr h2
     ·rw [HP.out,if_pos hjl]
      simp only [List.length_append,List.length_replicate]
      omega
    case measure=>simp [intOf]
   ·have hjl':¬ (j:Int) < (len:Int) - 1:=by omega
    have hz:(Lib.byteCells (45 :: acc)).length + s0.length≤140737488355328:=by rw [Lib.byteCells_length,List.length_cons];omega
    go_wp2_with fail
    refine (Tryz.Builder_WriteString (w.heap.size + 1) (w.heap.size + 1) _ _ _ hI1 (by have:(⟨s0.toArray⟩:ByteArray).size=s0.length:=rfl;omega) hsz1).mono ?_
    rintro e W3 ⟨rfl,h2,b2⟩
    go_wp2
    go_roundw
    case rel =>
     refine ⟨j,by omega,by first | rfl | (congr 1;omega),?_,?_,hbw1.trans b2⟩
     ·rw [HP.out,if_neg hjl]
      rw [Lib.strCells_eq,← Lib.byteCells_append] at h2
      exact Or.inr h2
     ·rw [HP.out,if_neg hjl]
      simp only [List.length_append,List.length_nil]
      omega
    case measure=>simp [intOf]
set_option maxHeartbeats 1000000 in
theorem wa1 (neg:Bool) (a:Option Addr) (cap:Nat) (w:World) :
  Calls Tryz.prog 131 #[.agg #[.bool neg,.slice a 0 cap]] w fun e w'=>e=.returned (.string ⟨#[48]⟩)∧Below w.heap.size w w':=by
 go_enter Tryz.func131,Tryz.ntmps131
 go_wp2
 go_ret
 exact ⟨rfl,(Below.refl _ _).alloc (Nat.le_refl _) _⟩
end Go.Proofs
