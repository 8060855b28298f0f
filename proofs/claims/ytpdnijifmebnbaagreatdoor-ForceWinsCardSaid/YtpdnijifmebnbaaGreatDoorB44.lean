/-
  Steps to a law of this program: SWn15.
  Conditions: none.
-/
import Derived.Test.YtpdnijifmebnbaaGreatDoorB41
import Derived.Test.YtpdnijifmebnbaaGreatDoorB43
set_option linter.unusedVariables false
set_option linter.unusedSimpArgs false
set_option linter.unusedSectionVars false
namespace Go.Abs
noncomputable section
open Go.Proofs
set_option maxRecDepth 100000
theorem yb9 (a b c:Int):eqA (qv yP) 100 41 (.agg [.int .u64 a,.int .u64 b,.int .u64 c]) (.agg [.int .u64 a,.int .u64 b,.int .u64 c])=some true :=
 (show _=some ((a == a) && ((b == b) && ((c == c) && true))) from rfl).trans (by simp)
theorem zb9 {h:Heap} {xs:List AV} {K:AV→Prop} (e:eqA (qv yP) 100 41 (.agg xs) (.agg xs)=some true) (hk:K (.bool true)):gj (qv yP) h .eql 41 (.agg xs) (.agg xs) K:=by
 show (match eqA (qv yP) 100 41 (.agg xs) (.agg xs) with | some b=>K (.bool b) | none=>False)
 rw [e];exact hk
set_option maxHeartbeats 16000000 in
theorem gbA {d:Dr} {pk:AV} {b:Nat} {pl:Bool} (hd:g8 d) (hp:PicksV d.picks pk) (hb:b < 65536) :
  zb Tryz.prog 5 [.agg (drV d pk),.int .u16 ((b:Nat):Int),.bool pl] (.bool true):=by
 have hkc:=qao hp
 have hn0:=d.n_pos
 have hn5:=d.n_le
 have pD:=yan hp
 have hmo:=qbX hd hp
 have hwo:=qbA
 have hs1:=qb9 (n:=d.n) (b:=b) (by omega) hb
 have hMO:=d.model_ok
 have hlo:(osV d.os).length=d.n:=by simp [osV,d.os_len]
 have hol:=d.os_len
 have hV:=zay hMO
 have pM:=zk d.os (some d.n) d.rows (some d.n)
 have hSn:Sub (b &&& qb d.n) (qb d.os.length):=by rw [hol];exact jbE b d.n
 have c10:=gaF (oc:=some d.n) (cc:=some d.n) hV pM hSn (player:=0) (.inl rfl)
 have c20:=ya2 (oc:=some d.n) (cc:=some d.n) hV pM hSn (player:=0) (.inl rfl)
 have c30:=vbx (oc:=some d.n) (cc:=some d.n) hV pM hSn (player:=0) (.inl rfl)
 have c40:=ybx (oc:=some d.n) (cc:=some d.n) hMO hSn (p:=0) (.inl rfl)
 have c11:=gaF (oc:=some d.n) (cc:=some d.n) hV pM hSn (player:=1) (.inr rfl)
 have c21:=ya2 (oc:=some d.n) (cc:=some d.n) hV pM hSn (player:=1) (.inr rfl)
 have c31:=vbx (oc:=some d.n) (cc:=some d.n) hV pM hSn (player:=1) (.inr rfl)
 have c41:=ybx (oc:=some d.n) (cc:=some d.n) hMO hSn (p:=1) (.inr rfl)
 have hp2:=hp
 obtain ⟨ps,hps⟩:∃ ps,d.picks=ps:=⟨_,rfl⟩
 rw [hps] at hp2
 rcases hp2 with _ | ⟨_,c⟩
 all_goals
  cases pl
  all_goals
   refine yc (wo pD (.int _ _) (.bool _)) (.bool _) (jb vB mixed Tryz.func5 rfl (by decide +kernel) ?_)
   conv=>whnf
   repeat ((first | refine And.intro ⟨rfl,by decide,hkc⟩ ?_ | refine And.intro ⟨rfl,by decide,rfl⟩ ?_ | refine And.intro ⟨by decide,rfl⟩ ?_ | refine wa hwo (fun _ h=>by simp at h) ?_ | refine wa hmo (vb pD) ?_ | refine ya rfl ?_ | refine ua rfl ?_ | refine qa rfl ?_ | refine za rfl ?_ | refine qc hlo ?_ | refine wa hs1 (wb (.int _ _) (.int _ _)) ?_ | refine And.intro rfl ?_);conv=>whnf)
   repeat ((first | refine za rfl ?_ | refine wa c10 (wo pM (.int _ _) (.int _ _)) ?_ | refine wa c20 (wo pM (.int _ _) (.int _ _)) ?_ | refine wa c30 (wo pM (.int _ _) (.int _ _)) ?_ | refine wa c40 (wo pM (.int _ _) (.int _ _)) ?_ | refine wa c11 (wo pM (.int _ _) (.int _ _)) ?_ | refine wa c21 (wo pM (.int _ _) (.int _ _)) ?_ | refine wa c31 (wo pM (.int _ _) (.int _ _)) ?_ | refine wa c41 (wo pM (.int _ _) (.int _ _)) ?_ | refine ua rfl ?_ | refine ya rfl ?_ | refine And.intro ⟨by decide,rfl⟩ ?_ | refine qa rfl ?_ | refine Or.inl (zb9 (yb9 _ _ _) ?_) | refine And.intro rfl ?_);conv=>whnf)
   exact .pure _ (.bool _)
end
end Go.Abs
