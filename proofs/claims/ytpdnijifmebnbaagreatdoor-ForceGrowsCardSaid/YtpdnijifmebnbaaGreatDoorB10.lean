/-
  Steps to a law of this program: AbsOpsM, AbsRun, AbsWp.
  Conditions: none.
-/
import Derived.Test.YtpdnijifmebnbaaGreatDoorB3
import Derived.Test.YtpdnijifmebnbaaGreatDoorB9
set_option linter.unusedVariables false
set_option linter.unusedSimpArgs false
set_option linter.unusedSectionVars false
namespace Go.Abs
noncomputable section
variable [Gl]

def mapFind (k : IntKind) (n : Int) : List (AV × AV) → Nat → Option (Option (Nat × AV))
  | [], _ => some none
  | e :: es, i => match e.1 with
    | .int k' a => if k = k' then (if n = a then some (some (i, e.2)) else mapFind k n es (i + 1)) else none
    | _ => none

def isIntD : TypeDesc → Bool
  | .int _ => true
  | _ => false

def zeroA (ti : TI) : Option AV := if isAggD ti.desc then none else ti.zero.head?

def lookupW (T : Tab) (h : Heap) (t : TypeId) (x ix : AV) (comma : Bool) (K : AV → Prop) : Prop :=
  match T t with
  | none => False
  | some ti => match ti.desc with
    | .map key el => match T key with
      | none => False
      | some ki => isIntD ki.desc = true ∧ (match ix with
        | .int k n => match x with
          | .mp b => match h.blk? b with
            | some (.mapb es) => match mapFind k n es 0 with
              | some (some r) => K (if comma then .tup [r.2, .bool true] else r.2)
              | some none => match T el with
                | none => False
                | some ei => match zeroA ei with
                  | none => False
                  | some z => K (if comma then .tup [z, .bool false] else z)
              | none => False
            | _ => False
          | _ => False
        | _ => False)
    | _ => False

def mapPut (es : List (AV × AV)) (ix v : AV) : Option (Nat × AV) → List (AV × AV)
  | some r => es.set r.1 (ix, v)
  | none => es ++ [(ix, v)]

def mapUpdateW (T : Tab) (h : Heap) (t : TypeId) (x ix v : AV) (K : Heap → Prop) : Prop :=
  match T t with
  | none => False
  | some ti => match ti.desc with
    | .map key _ => match T key with
      | none => False
      | some ki => isIntD ki.desc = true ∧ (match ix with
        | .int k n => match x with
          | .mp b => match h.blk? b with
            | some (.mapb es) => match mapFind k n es 0 with
              | some o => K (h.put b (.mapb (mapPut es ix v o)))
              | none => False
            | _ => False
          | _ => False
        | _ => False)
    | _ => False

section sound
variable {P : Program} {T : Tab} {E : Env} {w : World} {h : Heap} {K : AV → Heap → Prop}

theorem findNow_ok {k : IntKind} {n : Int} {kd : IntKind} : ∀ (es : List (AV × AV)) (ces : List MapEntry) (i : Nat) (o : Option (Nat × AV)), es.length = ces.length →
    (∀ (j : Nat) (hi : j < es.length) (hj : j < ces.length), VR E w es[j].1 ces[j].key ∧ VR E w es[j].2 ces[j].val) → mapFind k n es i = some o →
    match o with
    | none => Instr.findNow (.int kd) (.int k n) ces i = some none
    | some r => ∃ v, Instr.findNow (.int kd) (.int k n) ces i = some (some (r.1, v)) ∧ VR E w r.2 v ∧ i ≤ r.1 ∧ r.1 < i + es.length ∧ ∃ (hi : r.1 - i < es.length), es[r.1 - i] = (.int k n, r.2)
  | [], [], i, o, _, _, h => by
    injection h with h; subst h; rfl
  | e :: es, c :: ces, i, o, hl, hv, h => by
    unfold mapFind at h
    have h0 := hv 0 (by simp) (by simp)
    simp only [List.getElem_cons_zero] at h0
    split at h
    · rename_i k' a hk
      split at h
      · rename_i hkk
        have hkey : c.key = .int k' a := by
          have := h0.1; rw [hk] at this; revert this; generalize c.key = kv; intro this; cases this; rfl
        split at h
        · rename_i hna
          injection h with h; subst h
          refine ⟨c.val, by simp [Instr.findNow, Instr.sameNow, hkey, hkk, hna], h0.2, Nat.le_refl _, by simp, by simp, ?_⟩
          obtain ⟨e1, e2⟩ := e
          simp only at hk; subst hk; subst hkk; subst hna
          simp
        · rename_i hna
          have ih := findNow_ok (k := k) (n := n) (kd := kd) es ces (i + 1) o (by simpa using hl) (fun j hi hj => hv (j + 1) (Nat.succ_lt_succ hi) (Nat.succ_lt_succ hj)) h
          have hne : (n == a) = false := by simpa using hna
          cases o with
          | none => simpa [Instr.findNow, Instr.sameNow, hkey, hkk, hne] using ih
          | some r =>
            obtain ⟨v, i1, i2, i3, i4, i5, i6⟩ := ih
            refine ⟨v, by simpa [Instr.findNow, Instr.sameNow, hkey, hkk, hne] using i1, i2, by omega, by simp; omega, by simp; omega, ?_⟩
            have e : r.1 - i = (r.1 - (i + 1)) + 1 := by omega
            simp only [e, List.getElem_cons_succ]
            exact i6
      · cases h
    · cases h
  | [], _ :: _, _, _, hl, _, _ => by simp at hl
  | _ :: _, [], _, _, hl, _, _ => by simp at hl

theorem int_desc {d : TypeDesc} (h : isIntD d = true) : ∃ k, d = .int k := by
  cases d <;> simp [isIntD] at h; exact ⟨_, rfl⟩

theorem run_checkKey (hT : TabOK P T) {key : TypeId} {ki : TI} (hk : T key = some ki) (hi : isIntD ki.desc = true) (b : Bool) (n : Nat) (k : IntKind) (a : Int) :
    (Instr.checkKey b (n + 1) key (.int k a)).run P w = .ok () w := by
  obtain ⟨kd, hd⟩ := int_desc hi
  simp [Instr.checkKey, run_und hT hk, hd]

theorem run_findKey (hT : TabOK P T) {key : TypeId} {ki : TI} {kd : IntKind} (hk : T key = some ki) (hd : ki.desc = .int kd) {v : Value} {es : List MapEntry} {o : Option (Nat × Value)} (h : Instr.findNow (.int kd) v es 0 = some o) :
    (Instr.findKey key v es).run P w = .ok o w := by
  unfold Instr.findKey
  rw [Sem.run_bind, run_und hT hk, Result.andThen_ok, hd, h]
  rfl

theorem op_makeMap (hr : HR E w h) {t : TypeId} (hk : K (.mp h.blks.length) (h.push (.mapb []))) : VOK P h E w (Instr.makeMap t none) K := by
  obtain ⟨p1, p2⟩ := hr_pushmap (E := E) (w := w) (w' := { w with heap := w.heap.push (.map #[] 0) }) hr (clock := 0) rfl rfl rfl rfl
  refine ⟨_, _, _, _, .map (some w.heap.size), ?_, hk, .mp _ _ fun Ls hLs => ?_, p1, .mp _ (by simp [Heap.push]), by simp [Heap.push], Nat.le_refl _, p2⟩
  · simp [Instr.makeMap, newObj, bind, Sem.bind, Sem.run, pure]
  · have e0 : (E.with h.blks.length [⟨w.heap.size, 0, 0, 0, 0⟩]).ρ h.blks.length = some [⟨w.heap.size, 0, 0, 0, 0⟩] := by
      show (if _ then _ else _) = _; rw [if_pos rfl]
    have e1 := hLs.symm.trans e0
    injection e1 with e1; subst e1
    exact ⟨_, List.mem_singleton.2 rfl, rfl⟩

theorem run_zeroA (hT : TabOK P T) {e : TypeId} {ei : TI} {z : AV} (he : T e = some ei) (hz : zeroA ei = some z) : ∃ v, (zeroValue e).run P w = .ok v w ∧ VR E w z v ∧ ∀ n m, Lt n m z := by
  obtain ⟨_, info, h1, h2, _, zz, h3, h4, h5, h6, h7, h8⟩ := hT.ok e ei he
  refine ⟨zz, by simp [zeroValue, run_typeInfo h1, h3], ?_⟩
  unfold zeroA at hz
  split at hz
  · cases hz
  · rename_i ha
    have hc := h8 (by simpa using ha)
    rw [hc] at h4
    have h4 : [ofV zz] = ei.zero := by simpa using h4
    rw [← h4] at hz
    have hz : ofV zz = z := by simpa using hz
    subst hz
    exact ⟨ofV_VR _ _ _, fun n m => ofV_Lt _ _ _⟩

theorem lt_map {b : Nat} {es : List (AV × AV)} (hr : HR E w h) (hb : h.blk? b = some (.mapb es)) : ∀ e ∈ es, Lt h.blks.length h.loops.length e.1 ∧ Lt h.blks.length h.loops.length e.2 := hr.lt.blks b _ hb

theorem op_lookup (hT : TabOK P T) (hr : HR E w h) {t : TypeId} {x ix : AV} {vx vi : Value} {comma : Bool} (hx : VR E w x vx) (hi : VR E w ix vi)
    (hb : lookupW T h t x ix comma (fun r => K r h)) : VOK P h E w (Instr.lookup t vx vi comma) K := by
  unfold lookupW at hb
  split at hb
  · exact hb.elim
  · rename_i ti ht
    split at hb
    · rename_i key el hd
      split at hb
      · exact hb.elim
      · rename_i ki hki
        obtain ⟨hint, hb⟩ := hb
        split at hb
        · rename_i k n
          cases hi
          split at hb
          · rename_i b
            split at hb
            · rename_i es hbl
              obtain ⟨L, ces, clock, e1, rfl, e2, e3, e4, e5⟩ := map_loc hr hx hbl
              obtain ⟨kd, hkd⟩ := int_desc hint
              have hl := lt_map hr hbl
              have pre : ∀ (o : Option (Nat × Value)), Instr.findNow (.int kd) (.int k n) ces.toList 0 = some o → (Instr.lookup t (.map (some L.blk)) (.int k n) comma).run P w =
                  ((match o with | some (_, v) => (pure (v, true) : Sem (Value × Bool)) | none => do pure (← zeroValue el, false)) >>= fun p => (pure (if comma then .tuple #[p.1, .bool p.2] else p.1) : Sem Value)).run P w := fun o ho => by
                unfold Instr.lookup
                rw [Sem.run_bind, run_und hT ht, Result.andThen_ok, hd]
                simp only [Sem.run_bind, run_getMap e3, Result.andThen_ok, Sem.run_pure, run_checkKey hT hki hint (ces.isEmpty) 9999 k n, run_findKey hT hki hkd ho]
                cases o with
                | none => simp only [Sem.run_bind, Sem.run_pure]; cases (zeroValue el).run P w <;> rfl
                | some p => simp
              split at hb
              · rename_i r hf
                obtain ⟨v, i1, i2, i3, i4, i5, i6⟩ := findNow_ok (E := E) (w := w) (kd := kd) es ces.toList 0 (some r) (by simpa using e4) (fun j h1 h2 => by simpa using e5 j h1 (by simpa using h2)) hf
                have hlr : Lt h.blks.length h.loops.length r.2 := by
                  have := hl _ (List.getElem_mem i5)
                  rw [i6] at this
                  exact this.2
                cases comma with
                | true =>
                  refine .val hr (v := .tuple #[v, .bool true]) ?_ (.tup _ _ rfl fun i h1 h2 => ?_) (.tup _ fun i h1 => ?_) hb
                  · rw [pre _ i1]; rfl
                  · match i, h1, h2 with
                    | 0, _, _ => exact i2
                    | 1, _, _ => exact .bool _
                  · match i, h1 with
                    | 0, _ => exact hlr
                    | 1, _ => exact .bool _
                | false => exact .val hr (v := v) (by rw [pre _ i1]; rfl) i2 hlr hb
              · rename_i hf
                have i1 := findNow_ok (E := E) (w := w) (kd := kd) es ces.toList 0 none (by simpa using e4) (fun j h1 h2 => by simpa using e5 j h1 (by simpa using h2)) hf
                split at hb
                · exact hb.elim
                · rename_i ei hei
                  split at hb
                  · exact hb.elim
                  · rename_i z hz
                    obtain ⟨v, z1, z2, z3⟩ := run_zeroA (E := E) (w := w) hT hei hz
                    cases comma with
                    | true =>
                      refine .val hr (v := .tuple #[v, .bool false]) ?_ (.tup _ _ rfl fun i h1 h2 => ?_) (.tup _ fun i h1 => ?_) hb
                      · rw [pre _ i1]; simp [z1]
                      · match i, h1, h2 with
                        | 0, _, _ => exact z2
                        | 1, _, _ => exact .bool _
                      · match i, h1 with
                        | 0, _ => exact z3 _ _
                        | 1, _ => exact .bool _
                    | false => exact .val hr (v := v) (by rw [pre _ i1]; simp [z1]) z2 (z3 _ _) hb
              · exact hb.elim
            · exact hb.elim
          · exact hb.elim
        · exact hb.elim
    · exact hb.elim

theorem run_setObj {r : Nat} {o : Obj} {es : Array MapEntry} {clock : Nat} (h : w.heap[r]? = some (.map es clock)) : (setObj r o).run P w = .ok () { w with heap := w.heap.setIfInBounds r o } := by
  simp [setObj, Sem.run, h]

theorem op_mapUpdate (hT : TabOK P T) (hr : HR E w h) {t : TypeId} {x ix v : AV} {vx vi vv : Value} {K : Heap → Prop} (hx : VR E w x vx) (hi : VR E w ix vi) (hv : VR E w v vv) (hlv : Lt h.blks.length h.loops.length v)
    (hb : mapUpdateW T h t x ix v K) : ∃ h' w', (Instr.mapUpdate t vx vi vv).run P w = .ok () w' ∧ K h' ∧ HR E w' h' ∧ Ext h.blks.length h.loops.length E w E w' ∧ h'.blks.length = h.blks.length ∧ h'.loops.length = h.loops.length := by
  unfold mapUpdateW at hb
  split at hb
  · exact hb.elim
  · rename_i ti ht
    split at hb
    · rename_i key el hd
      split at hb
      · exact hb.elim
      · rename_i ki hki
        obtain ⟨hint, hb⟩ := hb
        split at hb
        · rename_i k n
          cases hi
          split at hb
          · rename_i b
            split at hb
            · rename_i es hbl
              obtain ⟨L, ces, clock, e1, rfl, e2, e3, e4, e5⟩ := map_loc hr hx hbl
              obtain ⟨kd, hkd⟩ := int_desc hint
              have hl := lt_map hr hbl
              have hBl : L.blk < w.heap.size := hr.inside _ e2
              have fin : ∀ (es' : List (AV × AV)) (ces' : Array MapEntry) (clock' : Nat), es'.length = ces'.size → (∀ (i : Nat) (hi : i < es'.length) (hj : i < ces'.size), VR E w es'[i].1 ces'[i].key ∧ VR E w es'[i].2 ces'[i].val) →
                  (∀ e ∈ es', Lt h.blks.length h.loops.length e.1 ∧ Lt h.blks.length h.loops.length e.2) → K (h.put b (.mapb es')) →
                  ∃ h' w', (setObj L.blk (.map ces' clock')).run P w = .ok () w' ∧ K h' ∧ HR E w' h' ∧ Ext h.blks.length h.loops.length E w E w' ∧ h'.blks.length = h.blks.length ∧ h'.loops.length = h.loops.length := fun es' ces' clock' g1 g2 g3 g4 => by
                obtain ⟨p1, p2⟩ := hr_putmap (w' := { w with heap := w.heap.setIfInBounds L.blk (.map ces' clock') }) hr hbl e1 rfl rfl rfl (by simp) (fun B hB hne => by simp [Array.getElem?_setIfInBounds_ne hne])
                  (clock := clock') (by simp [hBl]) g1 g2 g3
                exact ⟨_, _, run_setObj e3, g4, p1, p2, by simp [Heap.put], rfl⟩
              split at hb
              · rename_i o hf
                have hfn := findNow_ok (E := E) (w := w) (kd := kd) es ces.toList 0 o (by simpa using e4) (fun j h1 h2 => by simpa using e5 j h1 (by simpa using h2)) hf
                have pre : ∀ (o : Option (Nat × Value)), Instr.findNow (.int kd) (.int k n) ces.toList 0 = some o → (Instr.mapUpdate t (.map (some L.blk)) (.int k n) vv).run P w =
                    ((match o with
                    | some (i, _) => do
                      let key ← Instr.keyThatStays (((ces[i]?).map (·.key)).getD (.int k n)) (.int k n)
                      setObj L.blk (.map (ces.modify i fun e => { e with key, val := vv }) clock)
                    | none => setObj L.blk (.map (ces.push { key := .int k n, val := vv, born := clock }) (clock + 1)) : Sem Unit)).run P w := fun o ho => by
                  unfold Instr.mapUpdate
                  rw [Sem.run_bind, run_und hT ht, Result.andThen_ok, hd]
                  simp only [Sem.run_bind, run_getMap e3, Result.andThen_ok, run_checkKey hT hki hint false 9999 k n, run_findKey hT hki hkd ho]
                  cases o <;> rfl
                cases o with
                | none =>
                  rw [pre _ hfn]
                  refine fin (es ++ [(.int k n, v)]) _ _ (by simp [e4]) (fun i h1 h2 => ?_) (fun e he => ?_) hb
                  · simp only [List.length_append, List.length_singleton] at h1
                    rcases Nat.lt_or_ge i es.length with hlt | hge
                    · rw [List.getElem_append_left hlt, Array.getElem_push_lt (by omega)]
                      exact e5 i hlt (by omega)
                    · have e : i = es.length := by omega
                      subst e
                      rw [List.getElem_append_right (Nat.le_refl _)]
                      have : (ces.push { key := .int k n, val := vv, born := clock })[es.length] = { key := .int k n, val := vv, born := clock } := by
                        simp [e4]
                      rw [this]
                      simp only [Nat.sub_self, List.getElem_cons_zero]
                      exact ⟨.int _ _, hv⟩
                  · rcases List.mem_append.1 he with he | he
                    · exact hl e he
                    · obtain rfl : e = (.int k n, v) := by simpa using he
                      exact ⟨.int _ _, hlv⟩
                | some r =>
                  obtain ⟨v0, i1, i2, i3, i4, i5, i6⟩ := hfn
                  rw [pre _ i1]
                  simp only [Nat.sub_zero] at i5 i6
                  have hc : r.1 < ces.size := by omega
                  have hkey : ces[r.1].key = .int k n := by
                    have := (e5 r.1 i5 hc).1
                    rw [i6] at this
                    revert this; generalize ces[r.1].key = kv; intro this; cases this; rfl
                  have hks : (Instr.keyThatStays (((ces[r.1]?).map (·.key)).getD (.int k n)) (.int k n)).run P w = .ok (.int k n) w := by
                    simp [hc, hkey, Instr.keyThatStays, Instr.sameBits]
                  simp only [Sem.run_bind, hks, Result.andThen_ok]
                  refine fin _ _ _ (by simp [mapPut, e4]) (fun i h1 h2 => ?_) (fun e he => ?_) hb
                  · simp only [mapPut, List.length_set] at h1
                    simp only [mapPut, List.getElem_set, Array.getElem_modify]
                    split
                    · exact ⟨.int _ _, hv⟩
                    · exact e5 i h1 (by omega)
                  · rcases List.mem_or_eq_of_mem_set he with he | he
                    · exact hl e he
                    · rw [he]; exact ⟨.int _ _, hlv⟩
              · exact hb.elim
            · exact hb.elim
          · exact hb.elim
        · exact hb.elim
    · exact hb.elim

end sound
end
end Go.Abs

namespace Go.Abs
noncomputable section
variable [Gl]

def YldSem (P : Program) (l : Nat) (args : List AV) (h : Heap) (K : AV → Heap → Prop) : Prop :=
  GivesSem P h (fun w E t => ∃ (o : Nat) (vs : Array Value), E.lam l = some o ∧ TR E w args vs ∧ (∀ x ∈ args, Lt h.blks.length h.loops.length x) ∧ t = Instr.yield o vs) K

structure ExtSem (P : Program) (f : FuncId) (args : List AV) (r : AV) : Prop where
  pure : Pure r
  run : ∀ (E : Env) (w : World) (vs : Array Value), TR E w args vs → ∃ v, (callFunc f vs).run P w = .ok (.value v) w ∧ VR E w r v

def callV (P : Program) (h : Heap) (f : AV) (args : List AV) (K : AV → Heap → Prop) : Prop :=
  match f with
  | .fn (.func g) first cap => CallSem P g (first ++ args ++ cap) h K ∨ ∃ r, ExtSem P g (first ++ args ++ cap) r ∧ K r h
  | .yld l => (match h.loop? l with | some _ => True | none => False) ∧ YldSem P l args h K
  | _ => False


def callW (P : Program) (T : Tab) (st : St) (c : Call) (K : AV → Heap → Prop) : Prop :=
  match c.callee with
  | .builtin .len =>
    match c.argTypes.toList, c.args.toList with
    | [t], [x] => lenW T st.h t (st.ev x) (fun r => K r st.h)
    | _, _ => False
  | .builtin .append =>
    match c.argTypes.toList, c.args.toList with
    | [t, u], [s, x] =>
      match T t, T u with
      | some ti, some ui =>
        (notInt ui.desc = true ∧ (match ti.desc with | .slice e => (match T e with | some ei => (match st.ev x with | .str _ => ei.size = 1 | _ => True) | none => False) | _ => False)) ∧
          appendW2 T st.h t (st.ev s) (st.ev x) (fun r h' => K r h' ∨ moveW h' r K)
      | _, _ => False
    | _, _ => False
  | .builtin .max =>
    match c.args.toList with
    | [x, y] => match st.ev x, st.ev y with
      | .int k a, .int k' b => k = k' ∧ K (.int k (max a b)) st.h
      | _, _ => False
    | _ => False
  | .builtin .min =>
    match c.args.toList with
    | [x, y] => match st.ev x, st.ev y with
      | .int k a, .int k' b => k = k' ∧ K (.int k (min a b)) st.h
      | _, _ => False
    | _ => False
  | .builtin .copy =>
    match c.argTypes.toList, c.args.toList with
    | [t, _], [d, x] => copyW T st.h t (st.ev d) (st.ev x) K
    | _, _ => False
  | .value f => callV P st.h (st.ev f) (c.args.toList.map st.ev) K
  | _ => False

def isConstO : Operand → Bool
  | .const _ => true
  | _ => false

def nilIfcA (T : Tab) (op : BinOp) (t : TypeId) (ox oy : Operand) (x y : AV) : Option AV :=
  match T t with
  | none => none
  | some ti => match ti.desc with
    | .interface _ => match isConstO ox || isConstO oy with
      | false => none
      | true => match x, y with
        | .nili, .nili => (match op with | .eql => some (.bool true) | .neq => some (.bool false) | _ => none)
        | .nili, .ifc _ _ => (match op with | .eql => some (.bool false) | .neq => some (.bool true) | _ => none)
        | .ifc _ _, .nili => (match op with | .eql => some (.bool false) | .neq => some (.bool true) | _ => none)
        | _, _ => none
    | _ => none

def ptrG (T : Tab) (g : Nat → Option Blk) (op : BinOp) (t : TypeId) (x y : AV) : Option AV :=
  match T t with
  | none => none
  | some ti => match ti.desc with
    | .pointer el => (match T el with
      | none => none
      | some ei => (match Nat.blt 0 ei.size with
        | false => none
        | true => (match x, y with
          | .ptr b i j, .ptr b' i' j' => (match g b, g b' with
            | some (.rows _ false false), some (.rows _ false false) =>
              (match op with
              | .eql => some (.bool (Nat.beq b b' && Nat.beq i i' && Nat.beq j j'))
              | .neq => some (.bool !(Nat.beq b b' && Nat.beq i i' && Nat.beq j j'))
              | _ => none)
            | _, _ => none)
          | _, _ => none)))
    | _ => none
def ptrA (T : Tab) (h : Heap) (op : BinOp) (t : TypeId) (x y : AV) : Option AV := ptrG T h.blk? op t x y

def opW (P : Program) (T : Tab) (st : St) (o : Oper) (K : AV → Heap → Prop) : Prop :=
  match o.op with
  | .move x | .assign x => K (st.ev x) st.h
  | .pick c a b =>
    match st.ev c with
    | .bool t => match t with
      | true => K (st.ev a) st.h
      | false => K (st.ev b) st.h
    | _ => False
  | .alloc e => allocW T st.h e K
  | .box e x => boxW T st.h e (st.ev x) K
  | .build t ps => match buildA T t (ps.toList.map fun p => (p.1, st.ev p.2)) with | some r => K r st.h | none => False
  | .buildSlice t n ps => buildSliceW T st.h t n (ps.toList.map fun p => (p.1, st.ev p.2)) K
  | .load t a => match loadA T st.h t (st.ev a) with | some r => K r st.h | none => False
  | .store t a x => match storeA T st.h t (st.ev a) (st.ev x) with | some h' => K .junk h' | none => False
  | .nilCheck x => nilCheckW st.h (st.ev x) (fun r => K r st.h)
  | .binOp op t x y _ => binW T st.h op t (st.ev x) (st.ev y) (fun r => K r st.h) ∨ ∃ r, (nilIfcA T op t x y (st.ev x) (st.ev y) = some r ∨ ptrA T st.h op t (st.ev x) (st.ev y) = some r) ∧ K r st.h
  | .unOp op _ x => match unA op (st.ev x) with | some r => K r st.h | none => False
  | .convert s d x => convW T st.h s d (st.ev x) K ∨ convBytesW T st.h s d (st.ev x) K
  | .makeFunc f a c => K (.fn f (a.toList.map st.ev) (c.toList.map st.ev)) st.h
  | .makeSlice t l c => makeSliceW T st.h t (st.ev l) (st.ev c) K
  | .slice t x lo hi mx => sliceW T st.h t (st.ev x) (lo.map st.ev) (hi.map st.ev) (mx.map st.ev) (fun r => K r st.h)
  | .fieldAddr t x f => match fieldAddrA T st.h t (st.ev x) f with | some r => K r st.h | none => False
  | .field t x f => match fieldA T t (st.ev x) f with | some r => K r st.h | none => False
  | .indexAddr t x i => indexAddrW T st.h t (st.ev x) (st.ev i) (fun r => K r st.h)
  | .index t x i => indexW T t (st.ev x) (st.ev i) (fun r => K r st.h)
  | .extract x i => match st.ev x with | .tup cs => (match cs[i]? with | some r => K r st.h | none => False) | _ => False
  | .makeMap _ none => K (.mp st.h.blks.length) (st.h.push (.mapb []))
  | .lookup t x i c => lookupW T st.h t (st.ev x) (st.ev i) c (fun r => K r st.h)
  | .mapUpdate t m k x | .insert t m k x => mapUpdateW T st.h t (st.ev m) (st.ev k) (st.ev x) (fun h' => K .junk h')
  | .call c => callW P T st c K
  | _ => False

section sound
variable {P : Program} {T : Tab}

theorem gives_of_vok {h : Heap} {s : World → Env → Sem Next → Prop} {K : AV → Heap → Prop}
    (hv : ∀ E w t, HR E w h → s w E t → ∃ sv : Sem Value, t = (do pure (.value (← sv)) : Sem Next) ∧ VOK P h E w sv K) : GivesSem P h s K :=
  ⟨fun E w t h1 h2 c cs h3 => by
    obtain ⟨sv, rfl, r, h', E', w', v, hr, hk, rest1, rest2, rest3, rest4, rest5, rest6⟩ := hv E w t h1 h2
    exact ⟨r, h', E', w', v, hk, rest1, rest2, rest3, rest4, rest5, rest6, .one (at_value h3 (by simp [hr]))⟩⟩

theorem list_VR {E : Env} {w : World} {st : St} {tmps : Array Value} (h : TR E w st.tmps tmps) (xs : Array Operand) : TR E w (xs.toList.map st.ev) (xs.map (cev tmps)) :=
  ⟨by simp, fun i hi hj => by
    simp only [List.getElem_map, Array.getElem_toList, Array.getElem_map]
    exact cev_VR h _⟩

theorem list_Lt {n m : Nat} {st : St} (h : ∀ x ∈ st.tmps, Lt n m x) (xs : List Operand) : ∀ y ∈ xs.map st.ev, Lt n m y := by
  intro y hy
  obtain ⟨x, _, rfl⟩ := List.mem_map.1 hy
  exact ev_Lt h x

theorem parts_VR {E : Env} {w : World} {st : St} {tmps : Array Value} (h : TR E w st.tmps tmps) (ps : List (Nat × Operand)) : PVR E w (ps.map fun p => (p.1, st.ev p.2)) (ps.map fun p => (p.1, cev tmps p.2)) := by
  induction ps with
  | nil => exact .nil
  | cons p ps ih => exact .cons _ _ _ _ _ (cev_VR h _) ih

omit [Gl] in
theorem TR.append {E : Env} {w : World} {xs ys : List AV} {us vs : Array Value} (a : TR E w xs us) (b : TR E w ys vs) : TR E w (xs ++ ys) (us ++ vs) := by
  refine ⟨by simp [a.size, b.size], fun i hi hj => ?_⟩
  rcases Nat.lt_or_ge i xs.length with hl | hl
  · rw [List.getElem_append_left hl, Array.getElem_append_left (a.size ▸ hl)]
    exact a.val i hl _
  · rw [List.getElem_append_right hl, Array.getElem_append_right (a.size ▸ hl)]
    have e : i - xs.length = i - us.size := by rw [a.size]
    simp only [e]
    exact b.val _ _ _

omit [Gl] in
theorem run_callFunc {f : FuncId} (hok : FnOK P f) (vs : Array Value) (w : World) : (callFunc f vs).run P w = .ok (.enter f vs) w := by
  obtain ⟨fn, h1, h2, h3⟩ := hok.ok
  have h2' : ¬ fn.body = none := by intro e; rw [e] at h2; cases h2
  have h3' : ¬ fn.name = "runtime.NumGoroutine" := by simpa using h3
  simp [callFunc, h1, h2', h3']

omit [Gl] in
theorem same_off {sz i j i' j' : Nat} (h : j < sz) (h' : j' < sz) (e : i * sz + j = i' * sz + j') : i = i' ∧ j = j' := by
  have h0 : 0 < sz := by omega
  have e1 : (i * sz + j) / sz = i := by rw [Nat.mul_comm, Nat.mul_add_div h0, Nat.div_eq_of_lt h, Nat.add_zero]
  have e2 : (i' * sz + j') / sz = i' := by rw [Nat.mul_comm, Nat.mul_add_div h0, Nat.div_eq_of_lt h', Nat.add_zero]
  have e3 : i = i' := by rw [← e1, e, e2]
  subst e3
  exact ⟨rfl, by omega⟩

theorem op_ptr (hT : TabOK P T) {h : Heap} {E : Env} {w : World} {K : AV → Heap → Prop} (hr : HR E w h) {op : BinOp} {t : TypeId} {ox oy : Operand} {x y r : AV} {vx vy : Value} (hx : VR E w x vx) (hy : VR E w y vy)
    (hb : ptrA T h op t x y = some r) (hk : K r h) : VOK P h E w (binT op t ox oy vx vy) K := by
  unfold ptrA ptrG at hb
  split at hb
  · cases hb
  rename_i ti ht
  split at hb
  rotate_left
  · cases hb
  rename_i el hd
  split at hb
  · cases hb
  rename_i ei hei
  split at hb
  · cases hb
  rename_i hz
  rw [Nat.blt_eq] at hz
  split at hb
  rotate_left
  · cases hb
  rename_i b i j b' i' j'
  split at hb
  rotate_left
  · cases hb
  rename_i rs rs' hbl hbl'
  have hu : (underlying t).run P w = .ok (.pointer el) w := by rw [run_und hT ht, hd]
  have hs : (sizeOf el).run P w = .ok ei.size w := run_sizeOf hT hei
  have hz' : ¬ ei.size = 0 := by omega
  obtain ⟨d', hd'⟩ : ∃ d', Op.maxDepth = d' + 1 := ⟨9999, rfl⟩
  have heq : ∀ a b, Op.equal t a b = Op.equalIn (d' + 1) t a b := fun a b => by unfold Op.equal; rw [hd']
  obtain ⟨Ls, l1, l2⟩ := hr.rows b rs false false hbl
  obtain ⟨L, rfl⟩ := l2.one rfl
  obtain ⟨Ls', l1', l2'⟩ := hr.rows b' rs' false false hbl'
  obtain ⟨L', rfl⟩ := l2'.one rfl
  cases hx with
  | ptr _ _ _ a ha =>
  cases hy with
  | ptr _ _ _ a' ha' =>
  obtain ⟨L0, hL0, hi, hj, rfl⟩ := ha _ l1
  obtain rfl : L0 = L := by simpa using hL0
  obtain ⟨L1, hL1, hi', hj', rfl⟩ := ha' _ l1'
  obtain rfl : L1 = L' := by simpa using hL1
  obtain ⟨arr, ae, c1, _, _⟩ := (l2.all L0 (by simp)).lies
  obtain ⟨arr', ae', c1', _, _⟩ := (l2'.all L1 (by simp)).lies
  have key : (sameAddr ⟨L0.blk, L0.off + i * L0.sz + j, none⟩ ⟨L1.blk, L1.off + i' * L1.sz + j', none⟩).run P w = .ok (Nat.beq b b' && Nat.beq i i' && Nat.beq j j') w := by
    by_cases hbb : b = b'
    · subst hbb
      rw [l1] at l1'
      injection l1' with l1'
      injection l1' with l1' _
      subst l1'
      have e : ((⟨L0.blk, L0.off + i * L0.sz + j, none⟩ : Addr) == ⟨L0.blk, L0.off + i' * L0.sz + j', none⟩) = (Nat.beq b b && Nat.beq i i' && Nat.beq j j') := by
        rw [Bool.eq_iff_iff]
        simp only [Bool.and_eq_true, Nat.beq_eq, beq_iff_eq, Addr.mk.injEq, true_and, and_true]
        constructor
        · intro e
          exact same_off hj hj' (by omega)
        · rintro ⟨rfl, rfl⟩; rfl
      simp only [sameAddr]
      simp [e]
    · have hne : L0.blk ≠ L1.blk := hr.apart b b' _ _ L0 L1 hbb l1 l1' (by simp) (by simp) ((l2.all L0 (by simp)).own rfl)
      have e : (Nat.beq b b' && Nat.beq i i' && Nat.beq j j') = false := by
        have : Nat.beq b b' = false := by rw [← Bool.not_eq_true, Nat.beq_eq]; exact hbb
        rw [this]; rfl
      rw [e]
      have f1 : ∀ (a : Addr) (w' : World), (Sem.frozen a Sem.pure).run P w' = .ok (w'.frozen? a) w' := fun _ _ => rfl
      have f2 : ∀ (a : Nat) (w' : World), (Sem.shape a Sem.pure).run P w' = .ok (w'.shape? a) w' := fun _ _ => rfl
      simp [sameAddr, hne, noView, viewAt, mayBeOne, stringish, shape, frozen, f1, f2, World.shape?, World.frozen?, c1, c1']
  have hg : ∀ op, (eqGuard op t ox oy (.pointer (some ⟨L0.blk, L0.off + i * L0.sz + j, none⟩)) (.pointer (some ⟨L1.blk, L1.off + i' * L1.sz + j', none⟩))).run P w = .ok () w := fun op => by
    cases op <;> simp [eqGuard]
  split at hb <;> first | (cases hb; done) | skip
  · injection hb with hb; subst hb
    exact .bind_guard (hg _) (.bool hr (by simp [binOp, heq, Op.equalIn, hu, hs, hz', key]) hk)
  · injection hb with hb; subst hb
    exact .bind_guard (hg _) (.bool hr (by simp [binOp, heq, Op.equalIn, hu, hs, hz', key]) hk)

theorem op_nilIfc (hT : TabOK P T) {h : Heap} {E : Env} {w : World} {K : AV → Heap → Prop} (hr : HR E w h) {op : BinOp} {t : TypeId} {ox oy : Operand} {x y r : AV} {vx vy : Value} (hx : VR E w x vx) (hy : VR E w y vy)
    (hb : nilIfcA T op t ox oy x y = some r) (hk : K r h) : VOK P h E w (binT op t ox oy vx vy) K := by
  unfold nilIfcA at hb
  split at hb
  · cases hb
  · rename_i ti ht
    split at hb
    · rename_i ms hd
      have hu : (underlying t).run P w = .ok (.interface ms) w := by rw [run_und hT ht, hd]
      obtain ⟨d', hd'⟩ : ∃ d', Op.maxDepth = d' + 1 := ⟨9999, rfl⟩
      have heq : ∀ a b, Op.equal t a b = Op.equalIn (d' + 1) t a b := fun a b => by unfold Op.equal; rw [hd']
      split at hb
      · cases hb
      · rename_i hc
        rw [Bool.or_eq_true] at hc
        have con : ∀ o : Operand, isConstO o = true → ∃ v, o = .const v := fun o ho => by cases o <;> simp [isConstO] at ho; exact ⟨_, rfl⟩
        split at hb
        · cases hx; cases hy
          have hg : ∀ op, (eqGuard op t ox oy .nilIface .nilIface).run P w = .ok () w := fun op => by
            rcases hc with hc | hc
            · obtain ⟨v, rfl⟩ := con _ hc
              cases op <;> simp [eqGuard]
            · obtain ⟨v, rfl⟩ := con _ hc
              cases op <;> simp [eqGuard]
          split at hb <;> first | (cases hb; done) | skip
          · injection hb with hb; subst hb
            exact .bind_guard (hg _) (.bool hr (by simp [binOp, heq, Op.equalIn, hu]) hk)
          · injection hb with hb; subst hb
            exact .bind_guard (hg _) (.bool hr (by simp [binOp, heq, Op.equalIn, hu]) hk)
        · cases hx
          cases hy with
          | ifc _ _ v' hv' =>
            have hg : ∀ op t', (eqGuard op t ox oy .nilIface (.iface t' v')).run P w = .ok () w := fun op t' => by
              cases op <;> simp [eqGuard]
            split at hb <;> first | (cases hb; done) | skip
            · injection hb with hb; subst hb
              exact .bind_guard (hg _ _) (.bool hr (by simp [binOp, heq, Op.equalIn, hu]) hk)
            · injection hb with hb; subst hb
              exact .bind_guard (hg _ _) (.bool hr (by simp [binOp, heq, Op.equalIn, hu]) hk)
        · cases hy
          cases hx with
          | ifc _ _ v' hv' =>
            have hg : ∀ op t', (eqGuard op t ox oy (.iface t' v') .nilIface).run P w = .ok () w := fun op t' => by
              cases op <;> simp [eqGuard]
            split at hb <;> first | (cases hb; done) | skip
            · injection hb with hb; subst hb
              exact .bind_guard (hg _ _) (.bool hr (by simp [binOp, heq, Op.equalIn, hu]) hk)
            · injection hb with hb; subst hb
              exact .bind_guard (hg _ _) (.bool hr (by simp [binOp, heq, Op.equalIn, hu]) hk)
        · cases hb
    · cases hb

theorem gives_callV {h : Heap} {f : AV} {args : List AV} {K : AV → Heap → Prop} {s : World → Env → Sem Next → Prop} (hb : callV P h f args K) (hlf : Lt h.blks.length h.loops.length f) (hla : ∀ x ∈ args, Lt h.blks.length h.loops.length x)
    (hs : ∀ w E t, s w E t → ∃ vf vs, VR E w f vf ∧ TR E w args vs ∧ t = (do let d ← Deferred.ofValue vf vs; invoke d.target d.args : Sem Next)) : GivesSem P h s K := by
  unfold callV at hb
  split at hb
  · rename_i g first cap
    refine ⟨fun E w t h1 h2 c cs h3 => ?_⟩
    obtain ⟨vf, vs, hf, ha, rfl⟩ := hs w E t h2
    cases hf with
    | fn _ _ _ va vc e1 e2 v1 v2 =>
      rcases hb with hb | ⟨r, hb, hk⟩
      case inr =>
        have hargs : TR E w (first ++ args ++ cap) (va ++ vs ++ vc) := (TR.append ⟨e1, v1⟩ ha).append ⟨e2, v2⟩
        obtain ⟨v, hrun, hv⟩ := hb.run E w _ hargs
        refine ⟨r, h, E, w, v, hk, hv, h1, hb.pure.lt _ _, Nat.le_refl _, Nat.le_refl _, .refl .., .one (at_value h3 ?_)⟩
        rw [Array.append_assoc] at hrun
        simp [Deferred.ofValue, invoke, hrun]
      have hrun : (do let d ← Deferred.ofValue (.func (.func g) va vc) vs; invoke d.target d.args : Sem Next).run P w = .ok (.enter g (va ++ vs ++ vc)) w := by
        simp [Deferred.ofValue, invoke, run_callFunc hb.ok]
      have hargs : TR E w (first ++ args ++ cap) (va ++ vs ++ vc) := (TR.append ⟨e1, v1⟩ ha).append ⟨e2, v2⟩
      have hlt : ∀ x ∈ first ++ args ++ cap, Lt h.blks.length h.loops.length x := fun x hx => by
        simp only [List.mem_append] at hx
        cases hlf with
        | fn _ _ _ l1 l2 =>
          rcases hx with (hx | hx) | hx
          · obtain ⟨i, hi, rfl⟩ := List.getElem_of_mem hx; exact l1 i hi
          · exact hla x hx
          · obtain ⟨i, hi, rfl⟩ := List.getElem_of_mem hx; exact l2 i hi
      obtain ⟨r, h', E', w', v, fr, k, s1, s2, s3, s4, s5, s6, s7, s8, s9⟩ := hb.run E w _ h1 hargs hlt (c :: cs)
      exact ⟨r, h', E', w', v, k, s1, s2, s3, s4, s5, s6, .head (at_enter h3 hrun) (s7.trans (.one (step_leave_returned s9)))⟩
  · rename_i l
    refine ⟨fun E w t h1 h2 c cs h3 => ?_⟩
    obtain ⟨vf, vs, hf, ha, rfl⟩ := hs w E t h2
    cases hf with
    | yld _ fv va vc hv =>
      have hl := hb.1
      split at hl
      · rename_i r hlr
        obtain ⟨o, ho, _⟩ := h1.loops l r hlr
        obtain ⟨rfl, rfl, rfl⟩ := hv o ho
        refine hb.2.run E w _ h1 ⟨o, vs, ho, ha, hla, rfl⟩ c cs ?_
        have e : (do let d ← Deferred.ofValue (.func (.yield o) #[] #[]) vs; invoke d.target d.args : Sem Next) = Instr.yield o vs := by
          simp [Deferred.ofValue, invoke]
        rw [← e]; exact h3
      · exact hl.elim
  · exact hb.elim

theorem opW_sound (hT : TabOK P T) {st : St} {o : Oper} {K : AV → Heap → Prop} (hb : opW P T st o K) : OpSem P o st K := by
  rintro ⟨hnd, hlt⟩
  have hev := fun x => ev_Lt hlt x
  obtain ⟨dst, op, type, pos, after, guard⟩ := o
  unfold opW at hb
  split at hb
  all_goals try (exact (hb : False).elim)
  all_goals (rename_i hop; simp only at hop; subst hop)
  · -- move
    refine gives_value (fun E w t hr ⟨tmps, ht, e⟩ => ⟨_, .inl ?_, cev_VR ht _⟩) (hev _) hb
    subst e; simp [execOp]
  · refine gives_value (fun E w t hr ⟨tmps, ht, e⟩ => ⟨_, .inl ?_, cev_VR ht _⟩) (hev _) hb
    subst e; simp [execOp]
  · -- pick
    rename_i c a b
    split at hb
    · rename_i b' hc
      cases b' with
      | true =>
        refine gives_value (fun E w t hr ⟨tmps, ht, e⟩ => ⟨_, .inl ?_, cev_VR ht a⟩) (hev _) hb
        have := cev_VR ht c
        rw [hc] at this
        have hv := this.bool_inv
        subst e; simp [execOp, hv, asBool]
      | false =>
        refine gives_value (fun E w t hr ⟨tmps, ht, e⟩ => ⟨_, .inl ?_, cev_VR ht b⟩) (hev _) hb
        have := cev_VR ht c
        rw [hc] at this
        have hv := this.bool_inv
        subst e; simp [execOp, hv, asBool]
    · exact hb.elim
  · exact gives_of_vok fun E w t hr ⟨tmps, ht, e⟩ => ⟨_, e, op_alloc hT hr hb⟩
  · exact gives_of_vok fun E w t hr ⟨tmps, ht, e⟩ => ⟨_, e, op_box hr (cev_VR ht _) (hev _) hb⟩
  · -- build
    rename_i t ps
    split at hb
    · rename_i r hr'
      refine gives_of_vok fun E w _ hr ⟨tmps, ht, e⟩ => ⟨_, e, op_build hT hr (ps := ps.toList.map fun p => (p.1, st.ev p.2)) ?_ (fun p hp => ?_) hr' hb⟩
      · have := parts_VR ht ps.toList
        simpa using this
      · obtain ⟨q, _, rfl⟩ := List.mem_map.1 hp; exact hev _
    · exact hb.elim
  · rename_i t n ps
    refine gives_of_vok fun E w _ hr ⟨tmps, ht, e⟩ => ⟨_, e, op_buildSlice hT hr (ps := ps.toList.map fun p => (p.1, st.ev p.2)) ?_ (fun p hp => ?_) hb⟩
    · have := parts_VR ht ps.toList
      simpa using this
    · obtain ⟨q, _, rfl⟩ := List.mem_map.1 hp; exact hev _
  · split at hb
    · rename_i r hr'
      exact gives_of_vok fun E w _ hr ⟨tmps, ht, e⟩ => ⟨_, e, op_load hT hr (cev_VR ht _) (hev _) hr' hb⟩
    · exact hb.elim
  · -- store
    rename_i t a x
    split at hb
    · rename_i h' hs
      refine ⟨fun E w t' h1 ⟨tmps, ht, e⟩ c cs h3 => ?_⟩
      obtain ⟨E', w', r1, r2, r3, r4, r5⟩ := op_store (P := P) hT h1 (cev_VR ht a) (cev_VR ht x) (hev _) hs
      refine ⟨.junk, h', E', w', undef, hb, .junk _, r2, .junk, Nat.le_of_eq r4.symm, Nat.le_of_eq r5.symm, r3, .one (at_skip h3 ?_)⟩
      subst e; simp [execOp, r1]
    · exact hb.elim
  · -- nilCheck
    rename_i x
    refine ⟨fun E w t' h1 ⟨tmps, ht, e⟩ c cs h3 => ?_⟩
    obtain ⟨r, k, v1, v2, v3⟩ := op_nilCheck (K1 := fun r => K r st.h) h1 (cev_VR ht x) (hev x) hb
    refine ⟨r, st.h, E, w, cev tmps x, k, v1, h1, v2, Nat.le_refl _, Nat.le_refl _, .refl .., .one (at_value h3 ?_)⟩
    subst e
    simp only [execOp]
    revert v3
    generalize cev tmps x = v
    intro v3
    unfold notNil at v3
    split <;> first | (exact v3.elim) | rfl
  · rcases hb with hb | ⟨r, hb | hb, hk⟩
    · exact gives_of_vok fun E w _ hr ⟨tmps, ht, e⟩ => ⟨_, e, op_bin hT hr (cev_VR ht _) (cev_VR ht _) hb⟩
    · exact gives_of_vok fun E w _ hr ⟨tmps, ht, e⟩ => ⟨_, e, op_nilIfc hT hr (cev_VR ht _) (cev_VR ht _) hb hk⟩
    · exact gives_of_vok fun E w _ hr ⟨tmps, ht, e⟩ => ⟨_, e, op_ptr hT hr (cev_VR ht _) (cev_VR ht _) hb hk⟩
  · split at hb
    · rename_i r hr'
      exact gives_of_vok fun E w _ hr ⟨tmps, ht, e⟩ => ⟨_, e, op_unary hr (cev_VR ht _) hr' hb⟩
    · exact hb.elim
  · rcases hb with hb | hb
    · exact gives_of_vok fun E w _ hr ⟨tmps, ht, e⟩ => ⟨_, e, op_conv hT hr (cev_VR ht _) hb⟩
    · exact gives_of_vok fun E w _ hr ⟨tmps, ht, e⟩ => ⟨_, e, op_convBytes hT hr (cev_VR ht _) hb⟩
  · -- makeFunc
    rename_i f a c
    have hl : Lt st.h.blks.length st.h.loops.length (.fn f (a.toList.map st.ev) (c.toList.map st.ev)) :=
      .fn _ _ _ (fun i hi => list_Lt hlt _ _ (List.getElem_mem hi)) (fun i hi => list_Lt hlt _ _ (List.getElem_mem hi))
    refine gives_value (fun E w t' hr ⟨tmps, ht, e⟩ => ⟨.func f (a.map (cev tmps)) (c.map (cev tmps)), .inl ?_, ?_⟩) hl hb
    · subst e; simp [execOp, Instr.makeFunc]
    · have h1 := list_VR ht a
      have h2 := list_VR ht c
      exact .fn _ _ _ _ _ h1.size h2.size h1.val h2.val
  · exact gives_of_vok fun E w _ hr ⟨tmps, ht, e⟩ => ⟨_, e, op_make hT hr (cev_VR ht _) (cev_VR ht _) hb⟩
  · -- slice
    rename_i t x lo hi mx
    have ov : ∀ (E : Env) (w : World) (tmps : Array Value), TR E w st.tmps tmps → ∀ o : Option Operand, OVR E w (o.map st.ev) (o.map (cev tmps)) := fun E w tmps ht o => by
      cases o with
      | none => exact .none
      | some o => exact .some _ _ (cev_VR ht o)
    refine gives_of_vok fun E w _ hr ⟨tmps, ht, e⟩ => ⟨_, e, ?_⟩
    have hs := op_slice (P := P) hT hr (cev_VR ht x) (ov E w tmps ht lo) (ov E w tmps ht hi) (ov E w tmps ht mx) (hev x) hb
    obtain ⟨r, h', E', w', v, h1, rest⟩ := hs
    refine ⟨r, h', E', w', v, ?_, rest⟩
    have hd : ∃ ti, T t = some ti ∧ ((∃ e', ti.desc = .slice e') ∨ ti.desc = .string) := by
      unfold sliceW at hb
      split at hb
      · exact hb.elim
      · rename_i ti hti
        refine ⟨ti, hti, ?_⟩
        split at hb
        · rename_i hd _; exact .inr hd
        · rename_i hd _; exact .inl ⟨_, hd⟩
        · rename_i hd _; exact .inl ⟨_, hd⟩
        · rename_i hd _; exact .inl ⟨_, hd⟩
        · exact hb.elim
    obtain ⟨ti, hti, hna⟩ := hd
    rcases hna with ⟨e', hd⟩ | hd <;> simp only [Instr.sliceAt, Sem.run_bind, run_und hT hti, Result.andThen_ok, hd] <;> exact h1
  · split at hb
    · rename_i r hr'
      exact gives_of_vok fun E w _ hr ⟨tmps, ht, e⟩ => ⟨_, e, op_fieldAddr hT hr (cev_VR ht _) (hev _) hr' hb⟩
    · exact hb.elim
  · split at hb
    · rename_i r hr'
      exact gives_of_vok fun E w _ hr ⟨tmps, ht, e⟩ => ⟨_, e, op_field hT hr (cev_VR ht _) (hev _) hr' hb⟩
    · exact hb.elim
  · exact gives_of_vok fun E w _ hr ⟨tmps, ht, e⟩ => ⟨_, e, op_indexAddr hT hr (cev_VR ht _) (cev_VR ht _) (hev _) hb⟩
  · exact gives_of_vok fun E w _ hr ⟨tmps, ht, e⟩ => ⟨_, e, op_index hT hr (cev_VR ht _) (cev_VR ht _) (hev _) hb⟩
  · -- extract
    rename_i x i
    split at hb
    · rename_i cs hx
      split at hb
      · rename_i r hr'
        refine gives_of_vok fun E w _ hr ⟨tmps, ht, e⟩ => ⟨_, e, ?_⟩
        have := cev_VR ht x
        rw [hx] at this
        have hl := hev x
        rw [hx] at hl
        exact op_extract (x := .junk) hr this hl hr' hb
      · exact hb.elim
    · exact hb.elim
  · exact gives_of_vok fun E w _ hr ⟨tmps, ht, e⟩ => ⟨_, by simpa [execOp] using e, op_makeMap hr hb⟩
  · exact gives_of_vok fun E w _ hr ⟨tmps, ht, e⟩ => ⟨_, e, op_lookup hT hr (cev_VR ht _) (cev_VR ht _) hb⟩
  · rename_i t m k x
    refine ⟨fun E w t' h1 ⟨tmps, ht, e⟩ c cs h3 => ?_⟩
    obtain ⟨h', w', r1, r2, r3, r4, r5, r6⟩ := op_mapUpdate (P := P) hT h1 (cev_VR ht m) (cev_VR ht k) (cev_VR ht x) (hev _) hb
    refine ⟨.junk, h', E, w', undef, r2, .junk _, r3, .junk, Nat.le_of_eq r5.symm, Nat.le_of_eq r6.symm, r4, .one (at_skip h3 ?_)⟩
    subst e; simp [execOp, r1]
  · rename_i t m k x
    refine ⟨fun E w t' h1 ⟨tmps, ht, e⟩ c cs h3 => ?_⟩
    obtain ⟨h', w', r1, r2, r3, r4, r5, r6⟩ := op_mapUpdate (P := P) hT h1 (cev_VR ht m) (cev_VR ht k) (cev_VR ht x) (hev _) hb
    refine ⟨.junk, h', E, w', undef, r2, .junk _, r3, .junk, Nat.le_of_eq r5.symm, Nat.le_of_eq r6.symm, r4, .one (at_skip h3 ?_)⟩
    subst e; simp [execOp, r1]
  · -- call
    rename_i c
    unfold callW at hb
    have arr1 : ∀ {α : Type} {a : Array α} {x : α}, a.toList = [x] → a = #[x] := fun {_ a _} h => by rw [← Array.toArray_toList (xs := a), h]
    have arr2 : ∀ {α : Type} {a : Array α} {x y : α}, a.toList = [x, y] → a = #[x, y] := fun {_ a _ _} h => by rw [← Array.toArray_toList (xs := a), h]
    obtain ⟨callee, args, argTypes⟩ := c
    simp only at hb
    split at hb
    · -- len
      split at hb
      · rename_i t x e1 e2
        obtain rfl := arr1 e1
        obtain rfl := arr1 e2
        refine gives_of_vok fun E w _ hr ⟨tmps, ht, e⟩ => ⟨_, ?_, op_len (ty := type) hT hr (cev_VR ht x) hb⟩
        subst e
        simp [execOp, resolve, invoke, builtin]
      · exact hb.elim
    · -- append
      split at hb
      · rename_i t u s x e1 e2
        obtain rfl := arr2 e1
        obtain rfl := arr2 e2
        split at hb
        · rename_i ti ui hti hui
          obtain ⟨⟨hnu, hsz⟩, hb⟩ := hb
          refine gives_of_vok fun E w _ hr ⟨tmps, ht, e⟩ => ⟨_, ?_, (op_append2 (ty := type) hT hr hui hnu (cev_VR ht s) (cev_VR ht x) (hev s) (hev x) hb ?_).move⟩
          · subst e
            simp [execOp, resolve, invoke, builtin]
          · rintro ti' e' ei h1 h2 h3 ⟨a, ha⟩
            rw [hti] at h1; injection h1 with h1; subst h1
            rw [h2] at hsz
            simp only [h3, ha] at hsz
            exact hsz
        · exact hb.elim
      · exact hb.elim
    · -- max
      split at hb
      · rename_i x y e2
        obtain rfl := arr2 e2
        split at hb
        · rename_i k a k' b hx hy
          obtain ⟨rfl, hk⟩ := hb
          refine gives_of_vok fun E w _ hr ⟨tmps, ht, e⟩ => ⟨Builtin.max_ argTypes type #[cev tmps x, cev tmps y], ?_, ?_⟩
          · subst e
            simp [execOp, resolve, invoke, builtin]
          · have h1 := cev_VR ht x
            have h2 := cev_VR ht y
            rw [hx] at h1; rw [hy] at h2
            revert h1 h2
            generalize cev tmps x = vx
            generalize cev tmps y = vy
            intro h1 h2
            cases h1; cases h2
            refine .int hr ?_ hk
            have e : max a b = if b > a then b else a := by rw [Int.max_def]; split <;> split <;> omega
            simp [Builtin.max_, Builtin.max2, e]
        · exact hb.elim
      · exact hb.elim
    · -- min
      split at hb
      · rename_i x y e2
        obtain rfl := arr2 e2
        split at hb
        · rename_i k a k' b hx hy
          obtain ⟨rfl, hk⟩ := hb
          refine gives_of_vok fun E w _ hr ⟨tmps, ht, e⟩ => ⟨Builtin.min_ argTypes type #[cev tmps x, cev tmps y], ?_, ?_⟩
          · subst e
            simp [execOp, resolve, invoke, builtin]
          · have h1 := cev_VR ht x
            have h2 := cev_VR ht y
            rw [hx] at h1; rw [hy] at h2
            revert h1 h2
            generalize cev tmps x = vx
            generalize cev tmps y = vy
            intro h1 h2
            cases h1; cases h2
            refine .int hr ?_ hk
            have e : min a b = if b < a then b else a := by rw [Int.min_def]; split <;> split <;> omega
            simp [Builtin.min_, Builtin.min2, e]
        · exact hb.elim
      · exact hb.elim
    · -- copy
      split at hb
      · rename_i t u d x e1 e2
        obtain rfl := arr2 e1
        obtain rfl := arr2 e2
        refine gives_of_vok fun E w _ hr ⟨tmps, ht, e⟩ => ⟨_, ?_, op_copy (ty := type) (u := u) hT hr (cev_VR ht d) (cev_VR ht x) (hev d) (hev x) hb⟩
        subst e
        simp [execOp, resolve, invoke, builtin]
      · exact hb.elim
    · rename_i f
      refine gives_callV hb (hev f) (list_Lt hlt _) fun w E t ⟨tmps, ht, e⟩ => ⟨cev tmps f, args.map (cev tmps), cev_VR ht f, list_VR ht _, ?_⟩
      subst e
      simp only [execOp, resolve]
    · exact hb.elim
end sound
end
end Go.Abs

namespace Go.Abs
noncomputable section
variable [Gl]



section sound
variable {P : Program} {T : Tab} {n m : Nat} {rnd : Option Nat}

theorem opW_noDefer {st : St} {o : Oper} {K : AV → Heap → Prop} (h : opW P T st o K) : ∀ c, o.op ≠ .defer c := by
  intro c hc
  unfold opW at h
  rw [hc] at h
  exact h



def packA : List AV → AV
  | [x] => x
  | l => .tup l

def resA (T : Tab) (s : St) : List ResultVar → Option (List AV)
  | [] => some []
  | .tmp t :: r =>
    match resA T s r with
    | some l => some (s.tmps.getD t .junk :: l)
    | none => none
  | .cell a t :: r =>
    match loadA T s.h t (s.tmps.getD a .junk), resA T s r with
    | some x, some l => some (x :: l)
    | _, _ => none

theorem load_var (hT : TabOK P T) {E : Env} {w : World} {h : Heap} (hr : HR E w h) {t : TypeId} {x r : AV} {v : Value} (hv : VR E w x v) (hl : Lt h.blks.length h.loops.length x) (hx : loadA T h t x = some r) :
    ∃ a v', v = .pointer (some a) ∧ (loadVar t a).run P w = .ok v' w ∧ VR E w r v' ∧ Lt h.blks.length h.loops.length r := by
  unfold loadA at hx
  split at hx
  · cases hx
  · rename_i ti ht
    split at hx
    · rename_i b i j
      split at hx
      · rename_i rs g fz hb
        obtain ⟨row, hrow, hp⟩ := Option.bind_eq_some_iff.1 hx
        obtain ⟨B, o, rfl, hc⟩ := ptr_row hr hv hb hrow
        obtain ⟨v', hv1, hv2⟩ := part_load hT ht hc hp
        exact ⟨_, v', rfl, hv1, hv2, lt_of_partA hp fun y hy => hr.lt.blks b _ hb row (List.mem_of_getElem? hrow) y hy⟩
      · cases hx
    · rename_i row j
      obtain ⟨B, o, rfl, hc⟩ := vp_row hv
      obtain ⟨v', hv1, hv2⟩ := part_load hT ht hc hx
      refine ⟨_, v', rfl, hv1, hv2, lt_of_partA hx fun y hy => ?_⟩
      cases hl with | vp _ _ hl => obtain ⟨i, hi, rfl⟩ := List.getElem_of_mem hy; exact hl i hi
    · obtain ⟨row, hg, hp⟩ := Option.bind_eq_some_iff.1 hx
      obtain ⟨rfl, hc, hlt⟩ := gp_row hr hv hg
      obtain ⟨v', hv1, hv2⟩ := part_load hT ht hc hp
      exact ⟨_, v', rfl, hv1, hv2, lt_of_partA hp (hlt _ _)⟩
    · cases hx

def resV (tmps : Array Value) : ResultVar → Sem Value
  | .tmp t => pure (tmps.getD t undef)
  | .cell a t => do loadVar t (← asAddr (tmps.getD a undef))

theorem res_list (hT : TabOK P T) {s : St} {E : Env} {w : World} {tmps : Array Value} (hs : StR E w s tmps) : ∀ (rs : List ResultVar) (l : List AV), resA T s rs = some l →
    ∃ vs : List Value, (rs.mapM (resV tmps)).run P w = .ok vs w ∧ l.length = vs.length ∧
      (∀ (i : Nat) (hi : i < l.length) (hj : i < vs.length), VR E w l[i] vs[i]) ∧ ∀ x ∈ l, Lt s.h.blks.length s.h.loops.length x
  | [], l, h => by
    simp only [resA, Option.some.injEq] at h
    subst h
    exact ⟨[], by simp, rfl, fun i hi => by simp at hi, fun x hx => by simp at hx⟩
  | .tmp t :: rs, l, h => by
    simp only [resA] at h
    split at h
    · rename_i l' hl'
      injection h with h; subst h
      obtain ⟨vs, h1, h2, h3, h4⟩ := res_list hT hs rs l' hl'
      refine ⟨tmps.getD t undef :: vs, ?_, by simp [h2], fun i hi hj => ?_, fun x hx => ?_⟩
      · simp only [List.mapM_cons, resV, Sem.run_bind, Sem.run_pure, Result.andThen_ok, h1]
      · cases i with
        | zero => exact hs.tmps.getD t
        | succ i => exact h3 i (by simpa using hi) (by simpa using hj)
      · rcases List.mem_cons.1 hx with rfl | hx
        · exact ev_Lt hs.lt (.tmp t)
        · exact h4 x hx
    · cases h
  | .cell a t :: rs, l, h => by
    simp only [resA] at h
    split at h
    · rename_i x l' hx hl'
      injection h with h; subst h
      obtain ⟨vs, h1, h2, h3, h4⟩ := res_list hT hs rs l' hl'
      obtain ⟨ad, v', e1, e2, e3, e4⟩ := load_var (P := P) hT hs.heap (hs.tmps.getD a) (ev_Lt hs.lt (.tmp a)) hx
      refine ⟨v' :: vs, ?_, by simp [h2], fun i hi hj => ?_, fun y hy => ?_⟩
      · simp only [List.mapM_cons, resV, Sem.run_bind, e1, asAddr, Sem.run_pure, Result.andThen_ok, e2, h1]
      · cases i with
        | zero => exact e3
        | succ i => exact h3 i (by simpa using hi) (by simpa using hj)
      · rcases List.mem_cons.1 hy with rfl | hy
        · exact e4
        · exact h4 y hy
    · cases h

theorem res_sound (hT : TabOK P T) {fn : Func} {s : St} {l : List AV} (h : resA T s fn.results.toList = some l) : ResSem P fn s (packA l) := by
  refine ⟨fun E w tmps hs => ?_⟩
  obtain ⟨vs, h1, h2, h3, h4⟩ := res_list (P := P) hT hs _ l h
  have he : results fn tmps = (do let vs ← fn.results.mapM (resV tmps); pure (if h : vs.size = 1 then vs[0] else .tuple vs)) := by
    unfold results
    congr 1
  have hm : (fn.results.mapM (resV tmps)).run P w = .ok vs.toArray w := by
    rw [Array.mapM_eq_mapM_toList]
    simp only [Sem.run_map, h1, Result.andThen_ok]
  have htup : l.length ≠ 1 → VR E w (packA l) (.tuple vs.toArray) ∧ Lt s.h.blks.length s.h.loops.length (packA l) ∧ packA l = .tup l := by
    intro hne
    have e : packA l = .tup l := by
      unfold packA
      split
      · simp at hne
      · rfl
    rw [e]
    exact ⟨.tup _ _ (by simpa using h2) fun i hi hj => by simpa using h3 i hi (by simpa using hj), .tup _ fun i hi => h4 _ (List.getElem_mem hi), rfl⟩
  by_cases hl : l.length = 1
  · obtain ⟨x, rfl⟩ := List.length_eq_one_iff.1 hl
    obtain ⟨v, rfl⟩ := List.length_eq_one_iff.1 (h2 ▸ hl)
    refine ⟨v, ?_, h3 0 (by simp) (by simp), h4 x (by simp)⟩
    simp only [he, Sem.run_bind, hm, Result.andThen_ok]
    simp
  · obtain ⟨a, b, _⟩ := htup hl
    refine ⟨.tuple vs.toArray, ?_, a, b⟩
    simp only [he, Sem.run_bind, hm, Result.andThen_ok]
    have : ¬ vs.toArray.size = 1 := by simpa using h2 ▸ hl
    rw [dif_neg this]
    rfl

def endW (T : Tab) (fn : Func) (K : AV → Heap → Prop) : AExit → St → Prop
  | .normal, s => (match resA T s fn.results.toList with | some l => K (packA l) s.h | none => False)
  | .jump .ret, s => (match resA T s fn.results.toList with | some l => K (packA l) s.h | none => False)
  | _, _ => False


end sound
end
end Go.Abs
