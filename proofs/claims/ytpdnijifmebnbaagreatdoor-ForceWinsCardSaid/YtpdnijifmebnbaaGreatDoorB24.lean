/-
  Steps to a law of this program: SRf0, SRf1, SRf2, SRf3, SRf4, SRg1, SKn2.
  Conditions: none.
-/
import Derived.Test.YtpdnijifmebnbaaGreatDoorB23
import Derived.Test.YtpdnijifmebnbaaGreatDoorB22
import Derived.Test.YtpdnijifmebnbaaGreatDoorB12
import Derived.Test.YtpdnijifmebnbaaGreatDoorB16
set_option linter.unusedVariables false
set_option linter.unusedSimpArgs false
set_option linter.unusedSectionVars false
namespace Go.Abs
noncomputable section
open Go.Proofs
def waE:List (TypeId × TI):=[
 (24,{ desc:=(.struct #[{ name := "States",type:=5,offset:=0,embedded:=false,tag := "",pkgPath := "",byteOffset:=0 },{ name := "Owners",type:=5,offset:=1,embedded:=false,tag := "",pkgPath := "",byteOffset:=1 },{ name := "Grain",type:=5,offset:=2,embedded:=false,tag := "",pkgPath := "",byteOffset:=2 },{ name := "Cents",type:=5,offset:=3,embedded:=false,tag := "",pkgPath := "",byteOffset:=3 },{ name := "Picks",type:=22,offset:=4,embedded:=false,tag := "",pkgPath := "",byteOffset:=8 }]),size:=5,bytes:=32,zero:=[.int .u8 0,.int .u8 0,.int .u8 0,.int .u8 0,.nils],cmp:=true }),
 (36,{ desc:=(.struct #[{ name := "Owner",type:=33,offset:=0,embedded:=false,tag := "",pkgPath := "",byteOffset:=0 },{ name := "Choices",type:=34,offset:=1,embedded:=false,tag := "",pkgPath := "",byteOffset:=24 }]),size:=2,bytes:=48,zero:=[.nils,.nils],cmp:=true }),
 (33,{ desc:=(.slice 3),size:=1,bytes:=24,zero:=[.nils],cmp:=true }),
 (34,{ desc:=(.slice 61),size:=1,bytes:=24,zero:=[.nils],cmp:=true }),
 (3,{ desc:=(.int .i64),size:=1,bytes:=8,zero:=[.int .i64 0],cmp:=true }),
 (5,{ desc:=(.int .u8),size:=1,bytes:=1,zero:=[.int .u8 0],cmp:=true }),
 (22,{ desc:=(.slice 60),size:=1,bytes:=24,zero:=[.nils],cmp:=true }),
 (60,{ desc:=(.struct #[{ name := "State",type:=5,offset:=0,embedded:=false,tag := "",pkgPath := "",byteOffset:=0 },{ name := "Act",type:=5,offset:=1,embedded:=false,tag := "",pkgPath := "",byteOffset:=1 },{ name := "Gain",type:=5,offset:=2,embedded:=false,tag := "",pkgPath := "",byteOffset:=2 },{ name := "To",type:=57,offset:=3,embedded:=false,tag := "",pkgPath := "",byteOffset:=3 },{ name := "Part",type:=58,offset:=6,embedded:=false,tag := "",pkgPath := "",byteOffset:=6 }]),size:=8,bytes:=8,zero:=[.int .u8 0,.int .u8 0,.int .u8 0,.int .u8 0,.int .u8 0,.int .u8 0,.int .u8 0,.int .u8 0],cmp:=true }),
 (61,{ desc:=(.slice 64),size:=1,bytes:=24,zero:=[.nils],cmp:=true }),
 (67,{ desc:=(.struct #[{ name := "To",type:=3,offset:=0,embedded:=false,tag := "",pkgPath := "",byteOffset:=0 },{ name := "P",type:=25,offset:=1,embedded:=false,tag := "",pkgPath := "",byteOffset:=8 }]),size:=2,bytes:=24,zero:=[.int .i64 0,.str []],cmp:=true }),
 (62,{ desc:=(.slice 67),size:=1,bytes:=24,zero:=[.nils],cmp:=true }),
 (64,{ desc:=(.struct #[{ name := "Act",type:=9,offset:=0,embedded:=false,tag := "",pkgPath := "",byteOffset:=0 },{ name := "Gain",type:=25,offset:=1,embedded:=false,tag := "",pkgPath := "",byteOffset:=16 },{ name := "Next",type:=62,offset:=2,embedded:=false,tag := "",pkgPath := "",byteOffset:=32 }]),size:=3,bytes:=56,zero:=[.str [],.str [],.nils],cmp:=true }),
 (27,{ desc:=(.struct #[{ name := "What",type:=5,offset:=0,embedded:=false,tag := "",pkgPath := "",byteOffset:=0 },{ name := "State",type:=5,offset:=1,embedded:=false,tag := "",pkgPath := "",byteOffset:=1 },{ name := "At",type:=5,offset:=2,embedded:=false,tag := "",pkgPath := "",byteOffset:=2 },{ name := "N",type:=3,offset:=3,embedded:=false,tag := "",pkgPath := "",byteOffset:=8 },{ name := "Q",type:=25,offset:=4,embedded:=false,tag := "",pkgPath := "",byteOffset:=16 },{ name := "S",type:=9,offset:=5,embedded:=false,tag := "",pkgPath := "",byteOffset:=32 }]),size:=6,bytes:=48,zero:=[.int .u8 0,.int .u8 0,.int .u8 0,.int .i64 0,.str [],.str []],cmp:=true }),
 (9,{ desc:=.string,size:=1,bytes:=16,zero:=[.str []],cmp:=true }),
 (25,{ desc:=.string,size:=1,bytes:=16,zero:=[.str []],cmp:=true }),
 (30,{ desc:=(.int .u16),size:=1,bytes:=2,zero:=[.int .u16 0],cmp:=true }),
 (29,{ desc:=(.int .u64),size:=1,bytes:=8,zero:=[.int .u64 0],cmp:=true }),
 (4,{ desc:=.bool,size:=1,bytes:=1,zero:=[.bool false],cmp:=true }),
 (81,{ desc:=(.array 8 3),size:=8,bytes:=64,zero:=[.int .i64 0,.int .i64 0,.int .i64 0,.int .i64 0,.int .i64 0,.int .i64 0,.int .i64 0,.int .i64 0],cmp:=true }),
 (58,{ desc:=(.array 2 5),size:=2,bytes:=2,zero:=[.int .u8 0,.int .u8 0],cmp:=true }),
 (57,{ desc:=(.array 3 5),size:=3,bytes:=3,zero:=[.int .u8 0,.int .u8 0,.int .u8 0],cmp:=true }),
 (82,{ desc:=(.array 4 9),size:=4,bytes:=64,zero:=[.str [],.str [],.str [],.str []],cmp:=true }),
 (84,{ desc:=(.array 4 3),size:=4,bytes:=32,zero:=[.int .i64 0,.int .i64 0,.int .i64 0,.int .i64 0],cmp:=true }),
 (111,{ desc:=(.slice 25),size:=1,bytes:=24,zero:=[.nils],cmp:=true }),
 (145,{ desc:=(.slice 5),size:=1,bytes:=24,zero:=[.nils],cmp:=true }),
 (157,{ desc:=(.interface #[("Error",184)]),size:=1,bytes:=16,zero:=[.nili],cmp:=false }),
 (185,{ desc:=(.int .i64),size:=1,bytes:=8,zero:=[.int .i64 0],cmp:=true })]
theorem yd:wc Tryz.prog (qv waE):=gak waE (by
 intro p hp
 simp only [waE,List.mem_cons,List.not_mem_nil,or_false] at hp
 rcases hp with rfl | rfl | rfl | rfl | rfl | rfl | rfl | rfl | rfl | rfl | rfl | rfl | rfl | rfl | rfl | rfl | rfl | rfl | rfl | rfl | rfl | rfl | rfl | rfl | rfl | rfl | rfl <;> kernel_rfl)
end
end Go.Abs

namespace Go.Abs
noncomputable section
open Go.Proofs
theorem xz {x y:AV} (h:Pure x) (h':Pure y):Pure (.tup [x,y]):=.tup _ fun i hi=>by
 match i,hi with
 | 0,_=>exact h
 | 1,_=>exact h'
def xx:List UInt8→Nat→Nat
 | [],a=>a
 | c :: l,a=>xx l (a * 10 + (c.toNat - 48))
def vaY (s:List UInt8):Prop:=∀ c∈s,48≤c.toNat∧c.toNat≤57
set_option maxHeartbeats 1000000 in
theorem vb3 {s:List UInt8} (hd:vaY s) (h1:1≤s.length) (h2:s.length≤9):zb Tryz.prog 122 [.str s] (.tup [.int .i64 ((xx s 0:Nat):Int),.nili]):=by
 refine yc (vb (.str _)) (xz (.int _ _) .nili) (jb yd mixed Tryz.func122 rfl (by decide +kernel) ?_)
 conv=>whnf
 have hc0:=hd (s[0]'h1) (List.getElem_mem _)
 have e1:decide ((0:Int) < ((s.length:Nat):Int))=true:=decide_eq_true (by omega)
 have e2:decide (((s.length:Nat):Int) < (19:Int))=true:=decide_eq_true (by omega)
 have e3:((((s[0]'h1).toNat:Nat):Int) == 45)=false:=beq_eq_false_iff_ne.2 (by omega)
 have e4:((((s[0]'h1).toNat:Nat):Int) == 43)=false:=beq_eq_false_iff_ne.2 (by omega)
 repeat ((first | refine And.intro ⟨rfl,by decide,rfl⟩ ?_ | refine And.intro ⟨by decide,rfl⟩ ?_ | refine za rfl ?_ | refine And.intro rfl ?_ | refine ya rfl ?_ | refine ua rfl ?_ | refine qc rfl ?_ | refine ua e1 ?_ | refine ua ((congrArg (· == true) e1).trans rfl) ?_ | refine ua e2 ?_ | refine ua ((congrArg (· == true) e2).trans rfl) ?_ | refine vR 0 rfl h1 ?_ | refine ya e3 ?_ | refine ya e4 ?_ | refine ua ((congrArg (· == false) e3).trans rfl) ?_ | refine ua ((congrArg (· == false) e4).trans rfl) ?_);conv=>whnf)
 refine Or.inr ?_
 conv=>whnf
 have hbl:(s.map fun b=>[AV.int .u8 b.toNat]).length=s.length:=by simp
 repeat ((first | refine And.intro ⟨rfl,by decide,rfl⟩ ?_ | refine And.intro ⟨by decide,rfl⟩ ?_ | refine za rfl ?_ | refine And.intro rfl ?_ | refine qc hbl ?_);conv=>whnf)
 refine gf yd mixed 77 (fun z:Nat × Nat=>s.length - z.1) (fun z=>z.1≤s.length∧xx (s.drop z.1) z.2=xx s 0∧z.2 < 10 ^ z.1)
  (fun z=>[(5,.str s),(6,.int .i64 ((z.2:Nat):Int)),(47,.vs (s.map fun b=>[AV.int .u8 b.toNat]) none),(48,.int .i64 ((s.length:Nat):Int)),(49,.int .i64 ((z.1:Nat):Int))]) (fun _=>⟨[],[]⟩) ?_ (0,0) _ ⟨Nat.zero_le _,rfl,by decide⟩ rfl rfl ⟨rfl,rfl,rfl,rfl,rfl,trivial⟩
 rintro ⟨i,a⟩ g ⟨i1,i2,i3⟩
 replace i1:i≤s.length:=i1
 replace i2:xx (s.drop i) a=xx s 0:=i2
 replace i3:a < 10 ^ i:=i3
 have i4:a < 1000000000:=Nat.lt_of_lt_of_le i3 (Nat.pow_le_pow_right (by decide) (by omega:i≤9))
 conv=>whnf
 refine yf (fun h4 => ?_) (fun h4 => ?_) <;> conv=>whnf
 ·have hi:i < s.length:=by have:((i:Nat):Int) < ((s.length:Nat):Int):=h4;omega
  obtain ⟨c,hc⟩:∃ c,s[i]=c:=⟨_,rfl⟩
  obtain ⟨hc1,hc2⟩:48≤c.toNat∧c.toNat≤57:=hc ▸ hd (s[i]) (List.getElem_mem hi)
  have hdr:s.drop i=c :: s.drop (i + 1):=by rw [List.drop_eq_getElem_cons hi,hc]
  rw [hdr] at i2
  have hbi:(s.map fun b=>[AV.int .u8 b.toNat])[i]? = some [.int .u8 ((c.toNat:Nat):Int)]:=by simp [hi,hc]
  have i5:a * 10 + (c.toNat - 48) < 10 ^ (i + 1):=by rw [Nat.pow_succ];omega
  repeat ((first | refine uc i rfl hbi rfl ?_ | refine za rfl ?_ | refine ya (decide_eq_false (by omega)) ?_ | refine And.intro rfl (ubA (by omega) ?_) | refine And.intro rfl (ub (by omega) ?_) | refine ub (by omega) ?_ | refine And.intro rfl ?_);conv=>whnf)
  refine ⟨(i + 1,a * 10 + (c.toNat - 48)),by show s.length - (i + 1) < s.length - i;omega,⟨hi,i2,i5⟩,rfl,rfl,rfl,?_,rfl,rfl,?_,trivial⟩
  ·show some (AV.int .i64 _)=some (AV.int .i64 _)
   congr 2
   push_cast
   omega
  ·show some (AV.int .i64 _)=some (AV.int .i64 _)
   congr 2
 ·have hi:¬ ((i:Nat):Int) < ((s.length:Nat):Int):=h4
  obtain rfl:i=s.length:=by omega
  rw [List.drop_length] at i2
  replace i2:a=xx s 0:=i2
  repeat ((first | refine vR 0 rfl h1 ?_ | refine ya e3 ?_ | refine And.intro rfl ?_);conv=>whnf)
  rw [← i2]
  exact .pure _ (xz (.int _ _) .nili)
end
end Go.Abs

namespace Go.Abs
noncomputable section
open Go.Proofs
theorem wW {x y z:AV} (h:Pure x) (h':Pure y) (h'':Pure z):Pure (.tup [x,y,z]):=.tup _ fun i hi=>by
 match i,hi with
 | 0,_=>exact h
 | 1,_=>exact h'
 | 2,_=>exact h''
def tx (n:Nat):List UInt8:=qr 20 n []
theorem vaZ:∀ (s t:List UInt8) (a:Nat),xx (s ++ t) a=xx t (xx s a)
 | [],_,_=>rfl
 | c :: s,t,a=>vaZ s t _
theorem xbs:∀ (k n:Nat) (acc:List UInt8),n < 10 ^ (k + 1)→∃ s,qr (k + 1) n acc=s ++ acc∧vaY s∧1≤s.length∧xx s 0=n∧∀ m,n < 10 ^ m→1≤m→s.length≤m
 | 0,n,acc,h=>by
  have:Nat.ble n 9=true:=Nat.ble_eq_true_of_le (by omega)
  have e:(UInt8.ofNat (Nat.add 48 n)).toNat=48 + n:=by
   show (48 + n) % 256=_
   omega
  refine ⟨[UInt8.ofNat (Nat.add 48 n)],by simp [qr,this],fun c hc => ?_,by simp,?_,fun m _ hm=>by simpa using hm⟩
  ·rw [List.mem_singleton.1 hc,e];omega
  ·show 0 * 10 + ((UInt8.ofNat (Nat.add 48 n)).toNat - 48)=n
   rw [e];omega
 | k + 1,n,acc,h=>by
  cases hb:Nat.ble n 9 with
  | true =>
   have hn:=Nat.le_of_ble_eq_true hb
   have e:(UInt8.ofNat (Nat.add 48 n)).toNat=48 + n:=by
    show (48 + n) % 256=_
    omega
   refine ⟨[UInt8.ofNat (Nat.add 48 n)],by simp [qr,hb],fun c hc => ?_,by simp,?_,fun m _ hm=>by simpa using hm⟩
   ·rw [List.mem_singleton.1 hc,e];omega
   ·show 0 * 10 + ((UInt8.ofNat (Nat.add 48 n)).toNat - 48)=n
    rw [e];omega
  | false =>
   have hn:9 < n:=by
    rcases Nat.lt_or_ge 9 n with h | h
    ·exact h
    ·rw [Nat.ble_eq_true_of_le h] at hb;cases hb
   have e:(UInt8.ofNat (Nat.add 48 (Nat.mod n 10))).toNat=48 + n % 10:=by
    show (48 + n % 10) % 256=_
    omega
   obtain ⟨s,h1,h2,h3,h4,h5⟩:=xbs k (Nat.div n 10) (UInt8.ofNat (Nat.add 48 (Nat.mod n 10)) :: acc) (by rw [Nat.pow_succ] at h;show n / 10 < _;omega)
   refine ⟨s ++ [UInt8.ofNat (Nat.add 48 (Nat.mod n 10))],?_,fun c hc => ?_,by simp,?_,fun m hm h1m => ?_⟩
   ·rw [List.append_assoc,List.singleton_append,← h1]
    conv=>lhs;unfold qr
    rw [hb]
   ·rcases List.mem_append.1 hc with hc | hc
    ·exact h2 c hc
    ·rw [List.mem_singleton.1 hc,e];omega
   ·rw [vaZ,h4]
    show n / 10 * 10 + ((UInt8.ofNat (Nat.add 48 (Nat.mod n 10))).toNat - 48)=n
    rw [e];omega
   ·rw [List.length_append,List.length_singleton]
    match m,h1m with
    | 1,_=>simp at hm;omega
    | m + 2,_ =>
     have:=h5 (m + 1) (by show n / 10 < _;rw [Nat.pow_succ] at hm;omega) (by omega)
     omega
theorem zU {n:Nat} (h:n < 1000000000):vaY (tx n)∧1≤(tx n).length∧xx (tx n) 0=n∧∀ m,n < 10 ^ m→1≤m→(tx n).length≤m:=by
 obtain ⟨s,h1,h2,h3,h4,h5⟩:=xbs 19 n [] (Nat.lt_of_lt_of_le h (by decide))
 rw [List.append_nil] at h1
 unfold tx
 rw [h1]
 exact ⟨h2,h3,h4,h5⟩
theorem wP {n:Nat} (h:n < 1000000000):(tx n).length≤9:=(zU h).2.2.2 9 h (by decide)
theorem ya0 {n m:Nat} (h:n < 1000000000) (h':m < 1000000000) (e:tx n=tx m):n=m:=by
 rw [← (zU h).2.2.1,← (zU h').2.2.1,e]
theorem wb3 {n:Nat} (h:n < 1000000000):zb Tryz.prog 122 [.str (tx n)] (.tup [.int .i64 ((n:Nat):Int),.nili]):=by
 obtain ⟨h1,h2,h3,_⟩:=zU h
 have:=vb3 h1 h2 (wP h)
 rw [h3] at this
 exact this
theorem jbx {n:Nat} (h:n < 1000000000):zb Tryz.prog 112 [.str (tx n)] (.tup [.int .i64 ((n:Nat):Int),.nili]):=by
 have hi:=wb3 h
 refine yc (vb (.str _)) (xz (.int _ _) .nili) (jb yd mixed Tryz.func112 rfl (by decide +kernel) ?_)
 conv=>whnf
 repeat ((first | refine And.intro ⟨rfl,by decide,rfl⟩ ?_ | refine And.intro ⟨by decide,rfl⟩ ?_ | refine wa hi (vb (.str _)) ?_ | refine za rfl ?_ | refine And.intro rfl ?_ | refine ya rfl ?_ | refine ua rfl ?_ | refine Or.inr ⟨_,Or.inl rfl,?_⟩);conv=>whnf)
 exact .pure _ (xz (.int _ _) .nili)
theorem jQ {n:Nat} (h:n < 1000000000):zb Tryz.prog 56 [.int .i64 ((n:Nat):Int)] (.str (tx n)):=by
 have hi:=jbj [.int .i64 ((n:Nat):Int)] (.str (tx n)) (by
  have:uar ((n:Nat):Int)=true:=Nat.ble_eq_true_of_le (by omega)
  show (match uar ((n:Nat):Int) with | true=>some (AV.str (wae ((n:Nat):Int))) | false=>none)=_
  rw [this];rfl)
 refine yc (vb (.int _ _)) (.str _) (jb yd mixed Tryz.func56 rfl (by decide +kernel) ?_)
 conv=>whnf
 repeat ((first | refine And.intro ⟨rfl,by decide,rfl⟩ ?_ | refine wa hi (vb (.int _ _)) ?_ | refine And.intro rfl ?_);conv=>whnf)
 exact .pure _ (.str _)
theorem vaq {n m:Nat} (h:n < 1000000000) (h':m < 1000000000):zb Tryz.prog 88 [.str (tx n),.str (tx m)] (.tup [.int .i64 ((n:Nat):Int),.int .i64 ((m:Nat):Int),.bool true]):=by
 have hi:=jbx h
 have hj:=jbx h'
 have e1:decide ((((tx n).length:Nat):Int) > 9)=false:=decide_eq_false (by have:=wP h;omega)
 have e2:decide ((((tx m).length:Nat):Int) > 9)=false:=decide_eq_false (by have:=wP h';omega)
 refine yc (wb (.str _) (.str _)) (wW (.int _ _) (.int _ _) (.bool _)) (jb yd mixed Tryz.func88 rfl (by decide +kernel) ?_)
 conv=>whnf
 repeat ((first | refine And.intro ⟨rfl,by decide,rfl⟩ ?_ | refine wa hi (vb (.str _)) ?_ | refine wa hj (vb (.str _)) ?_ | refine ya e1 ?_ | refine ya e2 ?_ | refine ua ((congrArg (· == false) e1).trans rfl) ?_ | refine qc rfl ?_ | refine And.intro rfl ?_);conv=>whnf)
 exact .pure _ (wW (.int _ _) (.int _ _) (.bool _))
end
end Go.Abs

namespace Go.Abs
noncomputable section
open Go.Proofs
theorem wm (n:Nat) (h:n < 9223372036854775808):IntKind.i64.wrap ((n:Nat):Int)=((n:Nat):Int):=IntWalk.i64_in _ (by omega)
theorem jby {n m:Nat} (h:n < 1000000000) (h':m < 1000000000) (h2:n + m < 1000000000):zb Tryz.prog 84 [.str (tx n),.str (tx m)] (.str (tx (n + m))):=by
 have hl:=vaq h h'
 have ho:=jQ h2
 refine yc (wb (.str _) (.str _)) (.str _) (jb yd mixed Tryz.func84 rfl (by decide +kernel) ?_)
 conv=>whnf
 repeat ((first | refine And.intro ⟨rfl,by decide,rfl⟩ ?_ | refine wa hl (wb (.str _) (.str _)) ?_ | refine wa ho (vb (.int _ _)) ?_ | refine ua rfl ?_ | refine And.intro rfl (zi (n + m) (by push_cast;rfl) (wm _ (by omega)) ?_) | refine And.intro rfl ?_);conv=>whnf)
 exact .pure _ (.str _)
theorem waJ {n m:Nat} (h:n < 1000000000) (h':m < 1000000000) (h2:n * m < 1000000000):zb Tryz.prog 85 [.str (tx n),.str (tx m)] (.str (tx (n * m))):=by
 have hl:=vaq h h'
 have ho:=jQ h2
 refine yc (wb (.str _) (.str _)) (.str _) (jb yd mixed Tryz.func85 rfl (by decide +kernel) ?_)
 conv=>whnf
 repeat ((first | refine And.intro ⟨rfl,by decide,rfl⟩ ?_ | refine wa hl (wb (.str _) (.str _)) ?_ | refine wa ho (vb (.int _ _)) ?_ | refine ua rfl ?_ | refine And.intro rfl (zi (n * m) (by push_cast;rfl) (wm _ (by omega)) ?_) | refine And.intro rfl ?_);conv=>whnf)
 exact .pure _ (.str _)
theorem za4 {n:Nat} (h:n < 1000000000) (h0:0 < n):zb Tryz.prog 72 [.str (tx n)] (.int .i64 1):=by
 obtain ⟨h1,h2,h3,_⟩:=zU h
 have hne:(tx n == [48])=false:=beq_eq_false_iff_ne.2 fun e=>by
  rw [e] at h3
  have:xx [48] 0=0:=rfl
  omega
 have hn:zb Tryz.prog 92 [.str (tx n)] (.bool false):=by
  have hc0:=h1 ((tx n)[0]'h2) (List.getElem_mem _)
  have e3:(((((tx n)[0]'h2).toNat:Nat):Int) == 45)=false:=beq_eq_false_iff_ne.2 (by omega)
  refine yc (vb (.str _)) (.bool _) (jb yd mixed Tryz.func92 rfl (by decide +kernel) ?_)
  conv=>whnf
  repeat ((first | refine And.intro ⟨rfl,by decide,rfl⟩ ?_ | refine vR 0 rfl h2 ?_ | refine And.intro rfl ?_);conv=>whnf)
  rw [e3]
  exact .pure _ (.bool _)
 refine yc (vb (.str _)) (.int _ _) (jb yd mixed Tryz.func72 rfl (by decide +kernel) ?_)
 conv=>whnf
 repeat ((first | refine And.intro ⟨rfl,by decide,rfl⟩ ?_ | refine ya hne ?_ | refine wa hn (vb (.str _)) ?_ | refine ya rfl ?_ | refine And.intro rfl ?_);conv=>whnf)
 exact .pure _ (.int _ _)
theorem gbJ:zb Tryz.prog 72 [.str [48]] (.int .i64 0):=by
 refine yc (vb (.str _)) (.int _ _) (jb yd mixed Tryz.func72 rfl (by decide +kernel) ?_)
 conv=>whnf
 repeat ((first | refine And.intro ⟨rfl,by decide,rfl⟩ ?_ | refine ua rfl ?_ | refine And.intro rfl ?_);conv=>whnf)
 exact .pure _ (.int _ _)
theorem qb5 {n m:Nat} (h:n < 1000000000) (h':m < 1000000000):zb Tryz.prog 71 [.str (tx n),.str (tx m)] (.str (tx (Nat.gcd n m))):=by
 have hl:=vaq h h'
 have hg:Nat.gcd n m < 1000000000:=by
  rcases Nat.eq_zero_or_pos n with e | e
  ·subst e;rw [Nat.gcd_zero_left];exact h'
  ·exact Nat.lt_of_le_of_lt (Nat.gcd_le_left m e) h
 have ho:=jQ hg
 refine yc (wb (.str _) (.str _)) (.str _) (jb yd mixed Tryz.func71 rfl (by decide +kernel) ?_)
 conv=>whnf
 repeat ((first | refine And.intro ⟨rfl,by decide,rfl⟩ ?_ | refine wa hl (wb (.str _) (.str _)) ?_ | refine ua rfl ?_ | refine And.intro rfl ?_);conv=>whnf)
 refine gf yd mixed 50 (fun z:Nat × Nat=>z.2) (fun z=>z.1 < 1000000000∧z.2 < 1000000000∧Nat.gcd z.1 z.2=Nat.gcd n m)
  (fun z=>[(5,.int .i64 ((z.1:Nat):Int)),(6,.int .i64 ((z.2:Nat):Int))]) (fun _=>⟨[],[]⟩) ?_ (n,m) _ ⟨h,h',rfl⟩ rfl rfl ⟨rfl,rfl,trivial⟩
 rintro ⟨a,b⟩ g ⟨i1,i2,i3⟩
 replace i1:a < 1000000000:=i1
 replace i2:b < 1000000000:=i2
 replace i3:Nat.gcd a b=Nat.gcd n m:=i3
 conv=>whnf
 by_cases hb:b=0
 ·subst hb
  rw [Nat.gcd_zero_right] at i3
  subst i3
  refine ya rfl ?_
  conv=>whnf
  repeat ((first | refine And.intro rfl (ub (by omega) ?_) | refine ub (by omega) ?_ | refine And.intro rfl ?_);conv=>whnf)
  have ho':zb Tryz.prog 56 [.int .i64 (max ((Nat.gcd n m:Nat):Int) (0 - ((Nat.gcd n m:Nat):Int)))] (.str (tx (Nat.gcd n m))):=by
   have e:max ((Nat.gcd n m:Nat):Int) (0 - ((Nat.gcd n m:Nat):Int))=((Nat.gcd n m:Nat):Int):=by omega
   rw [e];exact ho
  refine wa ho' (vb (.int _ _)) ?_
  conv=>whnf
  repeat ((first | refine And.intro rfl ?_);conv=>whnf)
  exact .pure _ (.str _)
 ·refine ua (bne_iff_ne.2 (by omega)) ?_
  conv=>whnf
  repeat ((first | refine And.intro rfl (un a b rfl rfl hb ?_) | refine And.intro rfl ?_);conv=>whnf)
  have hlt:=Nat.mod_lt a (Nat.pos_of_ne_zero hb)
  refine ⟨(b,a % b),hlt,⟨i2,by omega,?_⟩,rfl,rfl,rfl,rfl,trivial⟩
  show Nat.gcd b (a % b)=_
  rw [← i3,Nat.gcd_comm b,← Nat.gcd_rec,Nat.gcd_comm]
theorem ybs {n m:Nat} (h:n < 1000000000) (h':m < 1000000000) (h0:m≠0):zb Tryz.prog 74 [.str (tx n),.str (tx m)] (.tup [.str (tx (n / m)),.str (tx (n % m))]):=by
 have hl:=vaq h h'
 have hq:n / m≤n:=Nat.div_le_self n m
 have ho:=jQ (n:=n / m) (by omega)
 have hr:=Nat.mod_lt n (Nat.pos_of_ne_zero h0)
 have ho2:=jQ (n:=n % m) (by omega)
 have hdm:=Nat.div_add_mod n m
 have hmul:(((m:Nat):Int) * ((n / m:Nat):Int))=((n - n % m:Nat):Int):=by
  have:m * (n / m)=n - n % m:=by omega
  rw [← this];push_cast;rfl
 have hmod:n % m≤n:=Nat.mod_le n m
 have n1:decide (((n:Nat):Int) < 0)=false:=decide_eq_false (by omega)
 have n2:decide (((m:Nat):Int) < 0)=false:=decide_eq_false (by omega)
 refine yc (wb (.str _) (.str _)) (xz (.str _) (.str _)) (jb yd mixed Tryz.func74 rfl (by decide +kernel) ?_)
 conv=>whnf
 by_cases hz:n % m=0
 ·have z1:(((n % m:Nat):Int) != 0)=false:=by rw [hz];rfl
  repeat ((first | refine And.intro ⟨rfl,by decide,rfl⟩ ?_ | refine wa hl (wb (.str _) (.str _)) ?_ | refine wa ho (vb (.int _ _)) ?_ | refine wa ho2 (vb (.int _ _)) ?_ | refine ua rfl ?_ | refine ya rfl ?_ | refine ya z1 ?_ | refine ya ((congrArg (· == true) z1).trans rfl) ?_ | refine And.intro rfl (yT n m rfl rfl h0 (wm _ (by omega)) ?_) | refine And.intro rfl (un n m rfl rfl h0 ?_) | refine And.intro rfl (zi (n - n % m) hmul (wm _ (by omega)) ?_) | refine And.intro rfl (zi (n % m) (by omega) (wm _ (by omega)) ?_) | refine And.intro rfl ?_);conv=>whnf)
  exact .pure _ (xz (.str _) (.str _))
 ·have z1:(((n % m:Nat):Int) != 0)=true:=bne_iff_ne.2 (by omega)
  repeat ((first | refine And.intro ⟨rfl,by decide,rfl⟩ ?_ | refine wa hl (wb (.str _) (.str _)) ?_ | refine wa ho (vb (.int _ _)) ?_ | refine wa ho2 (vb (.int _ _)) ?_ | refine ua rfl ?_ | refine ya rfl ?_ | refine ua z1 ?_ | refine ua ((congrArg (· == true) z1).trans rfl) ?_ | refine ya (by show (decide (((n:Nat):Int) < 0) != decide (((m:Nat):Int) < 0))=false;rw [n1,n2];rfl) ?_ | refine And.intro rfl (yT n m rfl rfl h0 (wm _ (by omega)) ?_) | refine And.intro rfl (un n m rfl rfl h0 ?_) | refine And.intro rfl (zi (n - n % m) hmul (wm _ (by omega)) ?_) | refine And.intro rfl (zi (n % m) (by omega) (wm _ (by omega)) ?_) | refine And.intro rfl ?_ | refine Or.inl ?_);conv=>whnf)
  exact .pure _ (xz (.str _) (.str _))
end
end Go.Abs

namespace Go.Abs
noncomputable section
open Go.Proofs
theorem uca {s:List UInt8} (h:∀ c∈s,c.toNat≠47) (hl:s.length < 4611686018427387904):zb Tryz.prog 104 [.str s] (.tup [.str s,.str [49],.bool false]):=by
 refine yc (vb (.str _)) (wW (.str _) (.str _) (.bool _)) (jb yd mixed Tryz.func104 rfl (by decide +kernel) ?_)
 conv=>whnf
 repeat ((first | refine And.intro ⟨rfl,by decide,rfl⟩ ?_ | refine And.intro rfl ?_);conv=>whnf)
 refine gf yd mixed 24 (fun i:Nat=>s.length - i) (fun i=>i≤s.length) (fun i=>[(0,.str s),(5,.int .i64 ((i:Nat):Int))]) (fun _=>⟨[],[]⟩) ?_ 0 _ (Nat.zero_le _) rfl rfl ⟨rfl,rfl,trivial⟩
 rintro i g i1
 replace i1:i≤s.length:=i1
 conv=>whnf
 refine qc rfl ?_
 conv=>whnf
 refine yf (fun h4 => ?_) (fun h4 => ?_) <;> conv=>whnf
 ·have hi:i < s.length:=by have:((i:Nat):Int) < ((s.length:Nat):Int):=h4;omega
  have hc:=h (s[i]) (List.getElem_mem hi)
  have e:((((s[i]'hi).toNat:Nat):Int) == 47)=false:=beq_eq_false_iff_ne.2 (by omega)
  repeat ((first | refine vR i rfl hi ?_ | refine ya e ?_ | refine And.intro rfl (ub (by omega) ?_) | refine And.intro rfl ?_);conv=>whnf)
  refine ⟨i + 1,by show s.length - (i + 1) < s.length - i;omega,hi,rfl,rfl,rfl,?_,trivial⟩
  show some (AV.int .i64 _)=some (AV.int .i64 _)
  congr 2
 ·have hi:¬ ((i:Nat):Int) < ((s.length:Nat):Int):=h4
  repeat ((first | refine And.intro rfl ?_);conv=>whnf)
  exact .pure _ (wW (.str _) (.str _) (.bool _))
theorem wca {a b s:List UInt8} (hs:s=a ++ 47 :: b) (h:∀ c∈a,c.toNat≠47) (hl:s.length < 4611686018427387904):zb Tryz.prog 104 [.str s] (.tup [.str a,.str b,.bool true]):=by
 have hls:s.length=a.length + (b.length + 1):=by rw [hs];simp
 refine yc (vb (.str _)) (wW (.str _) (.str _) (.bool _)) (jb yd mixed Tryz.func104 rfl (by decide +kernel) ?_)
 conv=>whnf
 repeat ((first | refine And.intro ⟨rfl,by decide,rfl⟩ ?_ | refine And.intro rfl ?_);conv=>whnf)
 refine gf yd mixed 24 (fun i:Nat=>s.length - i) (fun i=>i≤a.length) (fun i=>[(0,.str s),(5,.int .i64 ((i:Nat):Int))]) (fun _=>⟨[],[]⟩) ?_ 0 _ (Nat.zero_le _) rfl rfl ⟨rfl,rfl,trivial⟩
 rintro i g i1
 replace i1:i≤a.length:=i1
 have hi:i < s.length:=by omega
 conv=>whnf
 refine qc rfl ?_
 conv=>whnf
 refine ua (decide_eq_true (by omega)) ?_
 conv=>whnf
 by_cases hia:i < a.length
 ·have hsi:s[i]=a[i]:=by subst hs;rw [List.getElem_append_left hia]
  have hc:=h (a[i]) (List.getElem_mem hia)
  rw [← hsi] at hc
  have e:((((s[i]'hi).toNat:Nat):Int) == 47)=false:=beq_eq_false_iff_ne.2 (by omega)
  repeat ((first | refine vR i rfl hi ?_ | refine ya e ?_ | refine And.intro rfl (ub (by omega) ?_) | refine And.intro rfl ?_);conv=>whnf)
  refine ⟨i + 1,by show s.length - (i + 1) < s.length - i;omega,hia,rfl,rfl,rfl,?_,trivial⟩
  show some (AV.int .i64 _)=some (AV.int .i64 _)
  congr 2
 ·obtain rfl:i=a.length:=by omega
  have hsi:s[a.length]=47:=by subst hs;simp
  have e:((((s[a.length]'hi).toNat:Nat):Int) == 47)=true:=by rw [hsi];rfl
  have ha1:(s.take (((a.length:Nat):Int)).toNat).drop (0:Int).toNat=a:=by subst hs;simp
  have hb1:(s.take (((s.length:Nat):Int)).toNat).drop (((a.length:Nat):Int) + 1).toNat=b:=by
   have:(((a.length:Nat):Int) + 1).toNat=a.length + 1:=by omega
   rw [this,Int.toNat_natCast,List.take_length];subst hs;simp [List.drop_append]
  repeat ((first | refine vR a.length rfl hi ?_ | refine ua e ?_ | refine And.intro rfl ?_);conv=>whnf)
  refine Or.inl ⟨by decide +kernel,?_⟩
  conv=>whnf
  repeat ((first | (refine ⟨_,_,fun K hK=>(by (conv=>whnf);first | exact hK | exact za rfl hK | exact ga2 ⟨by omega,by omega,by omega⟩ ha1 hK | exact ga2 ⟨by omega,by omega,by omega⟩ hb1 hK | exact And.intro rfl (ub (by omega) hK) | (refine qa rfl ?_;(conv=>whnf);exact hK)),?_⟩;first | exact Or.inl ⟨rfl,trivial,?_⟩ | refine Or.inl ⟨rfl,trivial,?_⟩ | refine Or.inr ⟨trivial,(by repeat' (first | exact True.intro | refine And.intro ?_ ?_ | exact Or.inl (by decide +kernel))),?_⟩));conv=>whnf)
  exact .pure _ (wW (.str _) (.str _) (.bool _))
def qt (n d:Nat):List UInt8:=if d=1 then tx n else tx n ++ 47 :: tx d
def qN (n d:Nat):List UInt8:=qt (n / Nat.gcd n d) (d / Nat.gcd n d)
theorem jbf {n d:Nat} (h:n < 1000000000) (h':d < 1000000000) (h0:0 < d):zb Tryz.prog 55 [.str (tx n),.str (tx d)] (.str (qN n d)):=by
 have hg0:0 < Nat.gcd n d:=Nat.gcd_pos_of_pos_right n h0
 have hg:Nat.gcd n d < 1000000000:=Nat.lt_of_le_of_lt (Nat.gcd_le_right n h0) h'
 have hgcd:=qb5 h h'
 have hsg:=za4 h' h0
 have hd1:=ybs h hg (by omega)
 have hd2:=ybs h' hg (by omega)
 obtain ⟨n',hn'⟩:∃ n',n / Nat.gcd n d=n':=⟨_,rfl⟩
 obtain ⟨d',hd'⟩:∃ d',d / Nat.gcd n d=d':=⟨_,rfl⟩
 have ln:n' < 1000000000:=by rw [← hn'];exact Nat.lt_of_le_of_lt (Nat.div_le_self _ _) h
 have ld:d' < 1000000000:=by rw [← hd'];exact Nat.lt_of_le_of_lt (Nat.div_le_self _ _) h'
 have l1:=wP ln
 have l2:=wP ld
 unfold qN
 rw [hn',hd']
 rw [hn'] at hd1
 rw [hd'] at hd2
 have e1:(tx d' == [49])=decide (d'=1):=by
  by_cases e:d'=1
  ·subst e;decide
  ·rw [decide_eq_false e]
   exact beq_eq_false_iff_ne.2 fun e2=>e (ya0 ld (by decide) (e2.trans (by decide:[49]=tx 1)))
 refine yc (wb (.str _) (.str _)) (.str _) (jb yd mixed Tryz.func55 rfl (by decide +kernel) ?_)
 conv=>whnf
 repeat ((first | refine And.intro ⟨rfl,by decide,rfl⟩ ?_ | refine wa hgcd (wb (.str _) (.str _)) ?_ | refine wa hsg (vb (.str _)) ?_ | refine wa hd1 (wb (.str _) (.str _)) ?_ | refine wa hd2 (wb (.str _) (.str _)) ?_ | refine ya rfl ?_ | refine And.intro rfl ?_);conv=>whnf)
 by_cases e:d'=1
 ·refine ua (e1.trans (decide_eq_true e)) ?_
  conv=>whnf
  repeat ((first | refine And.intro rfl ?_);conv=>whnf)
  unfold qt
  rw [if_pos e]
  exact .pure _ (.str _)
 ·refine ya (e1.trans (decide_eq_false e)) ?_
  conv=>whnf
  repeat ((first | refine And.intro rfl ?_ | refine And.intro (by simp only [List.length_append,List.length_cons,List.length_nil];omega) ?_);conv=>whnf)
  unfold qt
  have ea:tx n' ++ 47 :: tx d'=tx n' ++ [47] ++ tx d':=by simp
  rw [if_neg e,ea]
  exact Frz.pure (.str (tx n' ++ [47] ++ tx d')) (.str _)
theorem waI {n d:Nat} (h:n < 1000000000) (h':d < 1000000000) (h0:0 < d):zb Tryz.prog 38 [.int .i64 ((n:Nat):Int),.int .i64 ((d:Nat):Int)] (.str (qN n d)):=by
 have hm:=jbf h h' h0
 have hn:=jQ h
 have hd:=jQ h'
 refine yc (wb (.int _ _) (.int _ _)) (.str _) (jb yd mixed Tryz.func38 rfl (by decide +kernel) ?_)
 conv=>whnf
 repeat ((first | refine And.intro ⟨rfl,by decide,rfl⟩ ?_ | refine wa hn (vb (.int _ _)) ?_ | refine wa hd (vb (.int _ _)) ?_ | refine wa hm (wb (.str _) (.str _)) ?_ | refine And.intro rfl ?_);conv=>whnf)
 exact .pure _ (.str _)
theorem za0 {n:Nat} (h:n < 1000000000):∀ c∈tx n,c.toNat≠47:=fun c hc=>by have:=(zU h).1 c hc;omega
theorem vca {n d:Nat} (h:n < 1000000000) (h':d < 1000000000):zb Tryz.prog 104 [.str (qt n d)] (.tup [.str (tx n),.str (tx d),.bool (decide (d≠1))]):=by
 have l1:=wP h
 have l2:=wP h'
 unfold qt
 by_cases e:d=1
 ·subst e
  rw [if_pos rfl]
  exact uca (za0 h) (by omega)
 ·rw [if_neg e,decide_eq_true e]
  exact wca rfl (za0 h) (by simp;omega)
theorem uan {n d:Nat} (h:n < 1000000000) (h':d < 1000000000):zb Tryz.prog 83 [.str (qt n d)] (.tup [.str (tx n),.str (tx d)]):=by
 have hc:=vca h h'
 refine yc (vb (.str _)) (xz (.str _) (.str _)) (jb yd mixed Tryz.func83 rfl (by decide +kernel) ?_)
 conv=>whnf
 repeat ((first | refine And.intro ⟨rfl,by decide,rfl⟩ ?_ | refine wa hc (vb (.str _)) ?_ | refine And.intro rfl ?_);conv=>whnf)
 exact .pure _ (xz (.str _) (.str _))
theorem ga3 {n d:Nat} (h:n < 1000000000) (h':d < 1000000000):zb Tryz.prog 62 [.str (qt n d)] (.int .i64 (if n=0 then 0 else 1)):=by
 have hp:=uan h h'
 have hs:zb Tryz.prog 72 [.str (tx n)] (.int .i64 (if n=0 then 0 else 1)):=by
  by_cases e:n=0
  ·subst e;exact gbJ
  ·rw [if_neg e];exact za4 h (by omega)
 refine yc (vb (.str _)) (.int _ _) (jb yd mixed Tryz.func62 rfl (by decide +kernel) ?_)
 conv=>whnf
 repeat ((first | refine And.intro ⟨rfl,by decide,rfl⟩ ?_ | refine wa hp (vb (.str _)) ?_ | refine wa hs (vb (.str _)) ?_ | refine And.intro rfl ?_);conv=>whnf)
 exact .pure _ (.int _ _)
theorem xa0 {d:Nat} (h:d < 1000000000):(tx d == [49])=decide (d=1):=by
 by_cases e:d=1
 ·subst e;decide
 ·rw [decide_eq_false e]
  exact beq_eq_false_iff_ne.2 fun e2=>e (ya0 h (by decide) (e2.trans (by decide:[49]=tx 1)))
theorem wci {n d m e:Nat} (hn:n < 1000000000) (hd:d < 1000000000) (hm:m < 1000000000) (he:e < 1000000000) (h1:n * e < 1000000000) (h2:m * d < 1000000000) (h3:n * e + m * d < 1000000000) (h4:d * e < 1000000000) (d0:0 < d) (e0:0 < e) :
  zb Tryz.prog 63 [.str (qt n d),.str (qt m e)] (.str (qN (n * e + m * d) (d * e))):=by
 have hp1:=uan hn hd
 have hp2:=uan hm he
 have z1:=xa0 hd
 have z2:=xa0 he
 refine yc (wb (.str _) (.str _)) (.str _) (jb yd mixed Tryz.func63 rfl (by decide +kernel) ?_)
 conv=>whnf
 by_cases hde:d=1∧e=1
 ·obtain ⟨rfl,rfl⟩:=hde
  rw [Nat.mul_one,Nat.mul_one] at h3
  have ha:=jby hn hm h3
  have hr:qN (n * 1 + m * 1) (1 * 1)=tx (n + m):=by
   unfold qN qt
   simp
  rw [hr]
  repeat ((first | refine And.intro ⟨rfl,by decide,rfl⟩ ?_ | refine wa hp1 (vb (.str _)) ?_ | refine wa hp2 (vb (.str _)) ?_ | refine wa ha (wb (.str _) (.str _)) ?_ | refine ua rfl ?_ | refine And.intro rfl ?_);conv=>whnf)
  exact .pure _ (.str _)
 ·have hm1:=waJ hn he h1
  have hm2:=waJ hm hd h2
  have hm3:=waJ hd he h4
  have ha:=jby h1 h2 h3
  have hk:=jbf h3 h4 (Nat.mul_pos d0 e0)
  by_cases hd1:d=1
  ·have he1:e≠1:=fun h=>hde ⟨hd1,h⟩
   rw [decide_eq_true hd1] at z1
   rw [decide_eq_false he1] at z2
   repeat ((first | refine And.intro ⟨rfl,by decide,rfl⟩ ?_ | refine wa hp1 (vb (.str _)) ?_ | refine wa hp2 (vb (.str _)) ?_ | refine wa ha (wb (.str _) (.str _)) ?_ | refine wa hm1 (wb (.str _) (.str _)) ?_ | refine wa hm2 (wb (.str _) (.str _)) ?_ | refine wa hm3 (wb (.str _) (.str _)) ?_ | refine wa hk (wb (.str _) (.str _)) ?_ | refine ua z1 ?_ | refine ua ((congrArg (· == true) z1).trans rfl) ?_ | refine ya z2 ?_ | refine And.intro rfl ?_);conv=>whnf)
   exact .pure _ (.str _)
  ·rw [decide_eq_false hd1] at z1
   repeat ((first | refine And.intro ⟨rfl,by decide,rfl⟩ ?_ | refine wa hp1 (vb (.str _)) ?_ | refine wa hp2 (vb (.str _)) ?_ | refine wa ha (wb (.str _) (.str _)) ?_ | refine wa hm1 (wb (.str _) (.str _)) ?_ | refine wa hm2 (wb (.str _) (.str _)) ?_ | refine wa hm3 (wb (.str _) (.str _)) ?_ | refine wa hk (wb (.str _) (.str _)) ?_ | refine ya z1 ?_ | refine ya ((congrArg (· == true) z1).trans rfl) ?_ | refine ya rfl ?_ | refine And.intro rfl ?_);conv=>whnf)
   exact .pure _ (.str _)
end
end Go.Abs

namespace Go.Abs
noncomputable section
open Go.Proofs
def uax (s:List UInt8):Prop:=(∀ c∈s,97≤c.toNat∧c.toNat≤122)∧s.length≤8
theorem uci {s:List UInt8} (h:uax s):zb Tryz.prog 60 [.str s] (.bool true):=by
 have hl:=h.2
 refine yc (vb (.str _)) (.bool _) (jb yd mixed Tryz.func60 rfl (by decide +kernel) ?_)
 conv=>whnf
 repeat ((first | refine And.intro ⟨rfl,by decide,rfl⟩ ?_ | refine And.intro rfl ?_);conv=>whnf)
 refine gf yd mixed 23 (fun i:Nat=>s.length - i) (fun i=>i≤s.length) (fun i=>[(0,.str s),(3,.int .i64 ((i:Nat):Int))]) (fun _=>⟨[],[]⟩) ?_ 0 _ (Nat.zero_le _) rfl rfl ⟨rfl,rfl,trivial⟩
 rintro i g i1
 replace i1:i≤s.length:=i1
 conv=>whnf
 refine qc rfl ?_
 conv=>whnf
 refine yf (fun h4 => ?_) (fun h4 => ?_) <;> conv=>whnf
 ·have hi:i < s.length:=by have:((i:Nat):Int) < ((s.length:Nat):Int):=h4;omega
  have hc:=h.1 (s[i]) (List.getElem_mem hi)
  have e1:decide ((((s[i]'hi).toNat:Nat):Int) < 97)=false:=decide_eq_false (by omega)
  have e2:decide ((((s[i]'hi).toNat:Nat):Int) > 122)=false:=decide_eq_false (by omega)
  repeat ((first | refine vR i rfl hi ?_ | refine ya e1 ?_ | refine ua ((congrArg (· == false) e1).trans rfl) ?_ | refine ya e2 ?_ | refine And.intro rfl (ub (by omega) ?_) | refine And.intro rfl ?_);conv=>whnf)
  refine ⟨i + 1,by show s.length - (i + 1) < s.length - i;omega,hi,rfl,rfl,rfl,?_,trivial⟩
  show some (AV.int .i64 _)=some (AV.int .i64 _)
  congr 2
 ·have hi:¬ ((i:Nat):Int) < ((s.length:Nat):Int):=h4
  have e3:decide (((s.length:Nat):Int)≤8)=true:=decide_eq_true (by omega)
  repeat ((first | refine qc rfl ?_ | refine And.intro rfl ?_);conv=>whnf)
  rw [e3]
  exact .pure _ (.bool _)
end
end Go.Abs

namespace Go.Abs
noncomputable section
open Go.Proofs
noncomputable def kM (T:List (FuncId × List (List AV × AV))):FuncId→Option (List AV→Option AV):=waC (qak T)
theorem wbi {T:List (FuncId × List (List AV × AV))} (h:xB Tryz.prog T):yr Tryz.prog (kM T):=gbK (ua1 h)
def jbl (l:List Nat):Op→Bool
 | .buildSlice t _ _=>l.any fun u=>Nat.beq u t
 | _=>false
noncomputable def kIs (T:List (FuncId × List (List AV × AV))) (hl:List Nat) (n:Nat) (f:FuncId) (x:List AV × AV):Bool :=
 qaD (jG Tryz.prog) (jaR (jG Tryz.prog) (kM T) (jbl hl)) (uaO Tryz.prog) (kM T) n f x.1 x.2
theorem uaM {T:List (FuncId × List (List AV × AV))} (h:xB Tryz.prog T) {hl:List Nat} {n:Nat} {f:FuncId} {x:List AV × AV} (hx:kIs T hl n f x=true):KnownSem Tryz.prog f x.1 x.2 :=
 qbM _ _ _ _ (jak Tryz.prog) ga4 (yb6 Tryz.prog) (wbi h) (gb9 (jG Tryz.prog) (kM T) (jbl hl) (jak Tryz.prog) ga4 (wbi h) (by decide +kernel)) hx
theorem vaA:xB Tryz.prog []:=fun x hx=>by cases hx
theorem jU {T T':List (FuncId × List (List AV × AV))} {hl:List Nat} {n:Nat} {f:FuncId} {rows:List (List AV × AV)} (h:xB Tryz.prog T) (hr:wj (kIs T hl n f) rows=true) (h':xB Tryz.prog T'):xB Tryz.prog ((f,rows) :: T'):=fun x hx=>by
 rcases List.mem_cons.1 hx with rfl | hx
 ·exact fun y hy=>uaM h (qaW hr y hy)
 ·exact h' x hx
end
end Go.Abs
