/-
  The abstract operations are the model's: indices, slices, arithmetic.
  Conditions: none.
-/
import Derived.Test.YthbpdiolceabhaaGreatDoorAbsOps1
set_option linter.unusedVariables false
set_option linter.unusedSimpArgs false
set_option linter.unusedSectionVars false
namespace Go.Abs
variable [Gl]

omit [Gl] in
theorem bytes_len (bs : ByteArray) : bs.data.toList.length = bs.size := Array.length_toList
theorem toList_loop (bs : ByteArray) : ∀ (n i : Nat) (r : List UInt8), bs.size - i = n → ByteArray.toList.loop bs i r = r.reverse ++ bs.data.toList.drop i
  | 0, i, r, h => by
    rw [ByteArray.toList.loop, if_neg (by omega)]
    have : bs.data.toList.drop i = [] := List.drop_eq_nil_of_le (by rw [bytes_len]; omega)
    rw [this, List.append_nil]
  | n + 1, i, r, h => by
    have hi : i < bs.size := by omega
    have hi' : i < bs.data.toList.length := by rw [bytes_len]; exact hi
    have hi'' : i < bs.data.size := hi
    rw [ByteArray.toList.loop, if_pos hi, toList_loop bs n (i + 1) _ (by omega), List.reverse_cons, List.append_assoc, List.singleton_append, List.drop_eq_getElem_cons hi']
    congr 2
    show bs.data[i]! = bs.data.toList[i]
    rw [getElem!_pos bs.data i hi'', Array.getElem_toList]
theorem toList_data (bs : ByteArray) : bs.toList = bs.data.toList := by
  unfold ByteArray.toList
  rw [toList_loop bs bs.size 0 [] (by omega)]
  rfl
theorem toList_bytes (s : List UInt8) : (⟨s.toArray⟩ : ByteArray).toList = s := by rw [toList_data]
omit [Gl] in
theorem size_bytes (s : List UInt8) : (⟨s.toArray⟩ : ByteArray).size = s.length := List.size_toArray

section ops
variable {P : Program} {T : Tab} {h : Heap} {E : Env} {w : World} {K : AV → Heap → Prop}

theorem ms_loc {b i len : Nat} {capo : Option Nat} {v : Value} (hr : HR E w h) (hv : VR E w (.ms b i len capo) v) {rs : List (List AV)} {g fz : Bool} (hb : h.blk? b = some (.rows rs g fz)) :
    ∃ Ls L c, E.ρ b = some Ls ∧ L ∈ Ls ∧ RowsAt E w Ls rs g fz ∧ i + len ≤ L.len ∧ len ≤ c ∧ L.off + (i + c) * L.sz ≤ L.n ∧ (∀ k, capo = some k → c = k) ∧ v = .slice (some ⟨L.blk, L.off + i * L.sz, none⟩) len c := by
  cases hv with
  | ms _ _ _ _ a l c hv =>
    obtain ⟨Ls, h1, h2⟩ := hr.rows b rs g fz hb
    obtain ⟨L, hL, h3, h4, h5, h6, rfl, rfl⟩ := hv Ls h1
    exact ⟨Ls, L, c, h1, hL, h2, h3, h4, h5, h6, rfl⟩

theorem op_indexGlob (hT : TabOK P T) (hr : HR E w h) {t : TypeId} {g j : Nat} {ix : AV} {vx vi : Value} (hv : VR E w (.gp g j) vx) (hvi : VR E w ix vi)
    (hx : indexGlobW T t g j ix (fun r => K r h)) : VOK P h E w (Instr.indexAt t vx vi) K := by
  unfold indexGlobW at hx
  split at hx
  · rename_i ti k i ht
    cases hvi
    split at hx
    · rename_i n e hd
      split at hx
      · exact hx.elim
      · rename_i ei hei
        obtain ⟨⟨hi0, hi1⟩, hk⟩ := hx
        cases hv
        refine .val hr (v := .pointer (some ⟨g, j + i.toNat * ei.size, none⟩)) ?_ (.gp _ _) (.gp _ _) hk
        simp [Instr.indexAt, asIntOf, run_und hT ht, hd, Instr.sureAddr, run_sizeOf hT hei, hi0, hi1, Addr.add_none]
    · exact hx.elim
  · exact hx.elim

theorem op_indexMem (hT : TabOK P T) (hr : HR E w h) {t : TypeId} {x ix : AV} {vx vi : Value} (hv : VR E w x vx) (hvi : VR E w ix vi) (hl : Lt h.blks.length h.loops.length x)
    (hx : indexMemW T h t x ix (fun r => K r h)) : VOK P h E w (Instr.indexAt t vx vi) K := by
  unfold indexMemW at hx
  split at hx
  · rename_i ti k i ht
    cases hvi
    split at hx
    · rename_i e b s len capo hd
      split at hx
      · exact hx.elim
      · rename_i ei hei
        obtain ⟨⟨hi0, hi1⟩, hsz, hblk, hk⟩ := hx
        split at hblk
        · rename_i rs g fz hb
          obtain ⟨row, hrow, hrl⟩ := hblk
          obtain ⟨Ls, L, c, h1, hL, h2, h3, h4, h5, h6, rfl⟩ := ms_loc hr hv hb
          obtain ⟨hsi, rfl⟩ := List.getElem?_eq_some_iff.1 hrow
          have hLsz : L.sz = ei.size := by rw [← (h2.all L hL).sz _ hsi]; exact hrl
          refine .val hr (v := .pointer (some ⟨L.blk, L.off + (s + i.toNat) * L.sz + 0, none⟩)) ?_ (.ptr _ _ _ _ fun Ls' hLs' => ?_) (by cases hl with | ms _ _ _ _ hl => exact .ptr _ _ _ hl) hk
          · have e : L.off + (s + i.toNat) * L.sz + 0 = L.off + s * L.sz + i.toNat * ei.size := by rw [hLsz, Nat.add_mul]; omega
            rw [e]
            simp [Instr.indexAt, asIntOf, run_und hT ht, hd, run_sizeOf hT hei, hi0, hi1, Addr.add_none]
          · rw [h1] at hLs'; injection hLs' with hLs'; subst hLs'
            exact ⟨L, hL, by omega, by omega, rfl⟩
        · exact hblk.elim
    · rename_i e es capo hd
      split at hx
      · exact hx.elim
      · rename_i ei hei
        obtain ⟨⟨hi0, hi1⟩, row, hrow, hrl, hk⟩ := hx
        cases hv with
        | vs _ _ B off cap sz vals hlen hcap hsz hF hh =>
          obtain ⟨hii, rfl⟩ := List.getElem?_eq_some_iff.1 hrow
          have hse : sz = ei.size := (hsz _ hii).symm.trans hrl
          refine .val hr (v := .pointer (some ⟨B, (off + i.toNat * sz) + 0, none⟩)) ?_ (.vp _ 0 B (off + i.toNat * sz) (vals i.toNat) (fun t ht' => ?_) (fun t ht' => hh _ hii _ ht')) ?_ hk
          · rw [Nat.add_zero, hse]
            simp [Instr.indexAt, asIntOf, run_und hT ht, hd, run_sizeOf hT hei, hi0, hi1, Addr.add_none]
          · exact hF _ hii _ ht'
          · cases hl with | vs _ _ hl => exact .vp _ _ fun t ht' => hl _ hii _ ht'
    · rename_i n e b r j hd
      split at hx
      · exact hx.elim
      · rename_i ei hei
        obtain ⟨⟨hi0, hi1⟩, hblk, hk⟩ := hx
        split at hblk
        · rename_i rs g fz hb
          split at hblk
          · rename_i row hrow
            cases hv with
            | ptr _ _ _ a hv =>
              obtain ⟨Ls, h1, h2⟩ := hr.rows b rs g fz hb
              obtain ⟨L, hL, h3, h4, rfl⟩ := hv Ls h1
              obtain ⟨hri, rfl⟩ := List.getElem?_eq_some_iff.1 hrow
              refine .val hr (v := .pointer (some ⟨L.blk, L.off + r * L.sz + j + i.toNat * ei.size, none⟩)) ?_ (.ptr _ _ _ _ fun Ls' hLs' => ?_) (by cases hl with | ptr _ _ _ hl => exact .ptr _ _ _ hl) hk
              · simp [Instr.indexAt, asIntOf, run_und hT ht, hd, Instr.sureAddr, run_sizeOf hT hei, hi0, hi1, Addr.add_none]
              · rw [h1] at hLs'; injection hLs' with hLs'; subst hLs'
                exact ⟨L, hL, h3, by rw [← (h2.all L hL).sz _ hri]; exact hblk, by rw [Nat.add_assoc]⟩
          · exact hblk.elim
        · exact hblk.elim
    · rename_i n e row j hd
      split at hx
      · exact hx.elim
      · rename_i ei hei
        obtain ⟨⟨hi0, hi1⟩, hk⟩ := hx
        cases hv with
        | vp _ _ B off vals hF hh =>
          refine .val hr (v := .pointer (some ⟨B, off + (j + i.toNat * ei.size), none⟩)) ?_ (.vp row _ B off vals hF hh) (by cases hl with | vp _ _ hl => exact .vp _ _ hl) hk
          rw [← Nat.add_assoc]
          simp [Instr.indexAt, asIntOf, run_und hT ht, hd, Instr.sureAddr, run_sizeOf hT hei, hi0, hi1, Addr.add_none]
    · exact hx.elim
  · exact hx.elim

theorem op_indexAddr (hT : TabOK P T) (hr : HR E w h) {t : TypeId} {x ix : AV} {vx vi : Value} (hv : VR E w x vx) (hvi : VR E w ix vi) (hl : Lt h.blks.length h.loops.length x)
    (hx : indexAddrW T h t x ix (fun r => K r h)) : VOK P h E w (Instr.indexAt t vx vi) K := by
  unfold indexAddrW at hx
  split at hx
  · exact op_indexGlob hT hr hv hvi hx
  · exact op_indexMem hT hr hv hvi hl hx

theorem op_index (hT : TabOK P T) (hr : HR E w h) {t : TypeId} {x ix : AV} {vx vi : Value} (hv : VR E w x vx) (hvi : VR E w ix vi) (hl : Lt h.blks.length h.loops.length x)
    (hx : indexW T t x ix (fun r => K r h)) : VOK P h E w (Instr.index t vx vi) K := by
  unfold indexW at hx
  split at hx
  · rename_i ti k i ht
    cases hvi
    split at hx
    · rename_i n e cs hd
      split at hx
      · exact hx.elim
      · rename_i ei hei
        obtain ⟨⟨hi0, hi1⟩, r, hp, hk⟩ := hx
        cases hv with
        | agg _ vs hs hv =>
          obtain ⟨v', h1, h2⟩ := part_agg hT hei hs hv hp
          refine .val hr (v := v') (r := r) ?_ h2 (lt_of_partA hp fun y hy => ?_) hk
          · simp [Instr.index, asIntOf, run_und hT ht, hd, run_sizeOf hT hei, hi0, hi1, h1]
          · cases hl with | agg _ hl => obtain ⟨i, hi, rfl⟩ := List.getElem_of_mem hy; exact hl i hi
    · rename_i s hd
      obtain ⟨hi0, c, hc, hk⟩ := hx
      cases hv
      refine .val hr (v := .int .u8 c.toNat) ?_ (.int _ _) (.int _ _) hk
      have e : (⟨s.toArray⟩ : ByteArray)[i.toNat]? = some c := by
        obtain ⟨hlt, rfl⟩ := List.getElem?_eq_some_iff.1 hc
        have hsz : i.toNat < (⟨s.toArray⟩ : ByteArray).size := by rw [size_bytes]; exact hlt
        have := getElem?_pos (⟨s.toArray⟩ : ByteArray) i.toNat hsz
        rw [this]
        rfl
      simp [Instr.index, asIntOf, run_und hT ht, hd, hi0, e]
    · exact hx.elim
  · exact hx.elim

theorem op_len (hT : TabOK P T) (hr : HR E w h) {t : TypeId} {x : AV} {v : Value} {ty : TypeId} (hv : VR E w x v) 
    (hx : lenW T h t x (fun r => K r h)) : VOK P h E w (Builtin.len_ #[t] ty #[v]) K := by
  unfold lenW at hx
  split at hx
  · exact hx.elim
  · rename_i ti ht
    split at hx
    · rename_i s hd
      cases hv
      exact .val hr (v := .int .i64 s.length) (by simp [Builtin.len_, run_und hT ht, hd, goInt, size_bytes]) (.int _ _) (.int _ _) hx
    · rename_i n e hd
      exact .val hr (v := .int .i64 n) (by show Sem.run P (underlying t >>= _) w = _; rw [Sem.run_bind, run_und hT ht, Result.andThen_ok, hd]; rfl) (.int _ _) (.int _ _) hx
    · rename_i e es capo hd
      cases hv
      exact .val hr (v := .int .i64 es.length) (by simp [Builtin.len_, run_und hT ht, hd, goInt]) (.int _ _) (.int _ _) hx
    · rename_i e b i len capo hd
      split at hx
      rotate_left
      · exact hx.elim
      rename_i rs g fz hb
      obtain ⟨Ls, L, c, h1, hL, h2, h3, h4, h5, h6, rfl⟩ := ms_loc hr hv hb
      exact .val hr (v := .int .i64 len) (by simp [Builtin.len_, run_und hT ht, hd, goInt]) (.int _ _) (.int _ _) hx
    · rename_i e hd
      cases hv
      exact .val hr (v := .int .i64 0) (by simp [Builtin.len_, run_und hT ht, hd, goInt]) (.int _ _) (.int _ _) hx
    · exact hx.elim

theorem op_unary {op : UnOp} (hr : HR E w h) {x r : AV} {v : Value} (hv : VR E w x v) (hx : unA op x = some r) (hk : K r h) : VOK P h E w (Op.unary op v) K := by
  unfold unA at hx
  split at hx
  · injection hx with hx; subst hx
    cases hv
    exact .val hr (by simp [Op.unary, Op.intArith]) (.int _ _) (.int _ _) hk
  · injection hx with hx; subst hx
    cases hv
    exact .val hr (by simp [Op.unary, Op.intBits]) (.int _ _) (.int _ _) hk
  · injection hx with hx; subst hx
    cases hv
    exact .val hr (by simp [Op.unary]) (.bool _) (.bool _) hk
  · cases hx

theorem op_extract (hr : HR E w h) {x : AV} {v : Value} {i : Nat} {cs : List AV} {r : AV} (hv : VR E w (.tup cs) v) (hl : Lt h.blks.length h.loops.length (.tup cs)) (hx : cs[i]? = some r) (hk : K r h) :
    VOK P h E w (Instr.extract v i) K := by
  cases hv with
  | tup _ vs hs hv =>
    obtain ⟨hi, rfl⟩ := List.getElem?_eq_some_iff.1 hx
    refine .val hr (v := vs[i]'(hs ▸ hi)) ?_ (hv i hi (hs ▸ hi)) (by cases hl with | tup _ hl => exact hl i hi) hk
    simp [Instr.extract, Array.getElem?_eq_getElem (hs ▸ hi)]

theorem VOK.bool {b : Bool} {s : Sem Value} (hr : HR E w h) (hs : s.run P w = .ok (.bool b) w) (hk : K (.bool b) h) : VOK P h E w s K := .val hr hs (.bool _) (.bool _) hk
theorem VOK.int {k : IntKind} {n : Int} {s : Sem Value} (hr : HR E w h) (hs : s.run P w = .ok (.int k n) w) (hk : K (.int k n) h) : VOK P h E w s K := .val hr hs (.int _ _) (.int _ _) hk

theorem op_int {op : BinOp} {k : IntKind} {a b : Int} {t : TypeId} {r : AV} (hr : HR E w h) (hx : intA op k a b = some r) (hk : K r h) : VOK P h E w (binOp op t (.int k a) (.int k b)) K := by
  cases op <;> simp only [intA] at hx <;> first | (cases hx; done) | skip
  all_goals injection hx with hx; subst hx
  all_goals first
    | exact .int hr (by simp [binOp, Op.intArith, Op.intBits]) hk
    | exact .bool hr (by simp [binOp, Op.intCmp]) hk

end ops
end Go.Abs
