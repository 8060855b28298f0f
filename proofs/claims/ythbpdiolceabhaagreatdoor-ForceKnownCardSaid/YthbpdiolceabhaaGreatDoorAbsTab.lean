/-
  What an operation asks of an abstract state: the abstract operations.
  Conditions: none.
-/
import Derived.Test.YthbpdiolceabhaaGreatDoorAbsCall
set_option linter.unusedVariables false
set_option linter.unusedSimpArgs false
set_option linter.unusedSectionVars false
namespace Go.Abs
variable [Gl]

/-- A type, as the operations need it. -/
structure TI where
  desc : TypeDesc
  size : Nat
  bytes : Nat
  zero : List AV
  /-- may its values be compared, cell by cell? -/
  cmp : Bool

abbrev Tab := TypeId → Option TI

def isAggD : TypeDesc → Bool
  | .struct _ | .array _ _ => true
  | _ => false

/-- The table is the program's. -/
structure TabOK (P : Program) (T : Tab) : Prop where
  ok : ∀ t i, T t = some i → P.underlying t = some i.desc ∧ ∃ info, P.info? t = some info ∧ info.size = i.size ∧ info.bytes = i.bytes ∧
    ∃ z, info.zero = some z ∧ z.cells.toList.map ofV = i.zero ∧ z.cells.size = i.size ∧ (∀ c ∈ z.cells.toList, one c = true) ∧
      (isAggD i.desc = true → z = .agg z.cells) ∧ (isAggD i.desc = false → z.cells = #[z])
  cmp : ∀ t i, T t = some i → i.cmp = true → P.stoodInHeld t = false ∧ P.eqGuardType P.depth t = false

/-- A value that one cell can hold. -/
def okc : AV → Bool
  | .junk | .agg _ | .tup _ => false
  | _ => true

def cellsA : AV → List AV
  | .agg cs => cs
  | x => [x]

def Heap.push (h : Heap) (b : Blk) : Heap := { h with blks := h.blks ++ [some b] }
def Heap.put (h : Heap) (b : Nat) (x : Blk) : Heap := { h with blks := h.blks.set b (some x) }

/-- The part of a row that a type fills. -/
def partA (ti : TI) (row : List AV) (j : Nat) : Option AV :=
  if isAggD ti.desc then (if j + ti.size ≤ row.length then some (.agg ((row.drop j).take ti.size)) else none) else row[j]?

def loadA (T : Tab) (h : Heap) (t : TypeId) (x : AV) : Option AV :=
  match T t with
  | none => none
  | some ti =>
    match x with
    | .ptr b i j =>
      match h.blk? b with
      | some (.rows rs _ _) => (rs[i]?).bind fun row => partA ti row j
      | _ => none
    | .vp row j => partA ti row j
    | .gp g j => (Gl.gl g).bind fun row => partA ti row j
    | _ => none

def storeA (T : Tab) (h : Heap) (t : TypeId) (x v : AV) : Option Heap :=
  match T t with
  | none => none
  | some ti =>
    match x with
    | .ptr b i j =>
      match h.blk? b with
      | some (.rows rs false false) =>
        match rs[i]? with
        | some row =>
          if (cellsA v).all okc && (cellsA v).length == ti.size && Nat.ble (j + ti.size) row.length then
            some (h.put b (.rows (rs.set i (row.take j ++ cellsA v ++ row.drop (j + ti.size))) false false))
          else none
        | none => none
      | _ => none
    | _ => none

def fieldAddrA (T : Tab) (h : Heap) (s : TypeId) (x : AV) (f : Nat) : Option AV :=
  match T s with
  | some { desc := .struct fs, .. } =>
    match fs[f]? with
    | none => none
    | some fd =>
      match T fd.type with
      | none => none
      | some fi =>
        if fi.size == 0 then none else
        match x with
        | .ptr b i j =>
          match h.blk? b with
          | some (.rows rs _ _) => match rs[i]? with
            | some row => if Nat.blt (j + fd.offset) row.length then some (.ptr b i (j + fd.offset)) else none
            | none => none
          | _ => none
        | .vp row j => some (.vp row (j + fd.offset))
        | .gp g j => some (.gp g (j + fd.offset))
        | _ => none
  | _ => none

def fieldA (T : Tab) (s : TypeId) (x : AV) (f : Nat) : Option AV :=
  match T s, x with
  | some { desc := .struct fs, .. }, .agg cs =>
    match fs[f]? with
    | none => none
    | some fd => match T fd.type with
      | none => none
      | some fi => partA fi cs fd.offset
  | _, _ => none

/-- Parts laid into cells. -/
def fillA (place : Nat → Option (Nat × Nat)) (cells : List AV) : List (Nat × AV) → Option (List AV)
  | [] => some cells
  | (i, v) :: rest =>
    match place i with
    | none => none
    | some (off, size) =>
      if (cellsA v).length == size && Nat.ble (off + size) cells.length && (cellsA v).all okc then
        fillA place (cells.take off ++ cellsA v ++ cells.drop (off + size)) rest
      else none

def placesA (T : Tab) (d : TypeDesc) : Nat → Option (Nat × Nat) :=
  match d with
  | .struct fs => fun i => match fs[i]? with
    | none => none
    | some fd => match T fd.type with
      | none => none
      | some fi => some (fd.offset, fi.size)
  | .array _ e => fun i => match T e with
    | none => none
    | some ei => some (i * ei.size, ei.size)
  | _ => fun _ => none

/-- The table knows the parts' types. -/
def knowsParts (T : Tab) : TypeDesc → Bool
  | .struct fs => fs.toList.all fun f => (T f.type).isSome
  | .array _ e => (T e).isSome
  | _ => false

def buildA (T : Tab) (t : TypeId) (parts : List (Nat × AV)) : Option AV :=
  match T t with
  | none => none
  | some ti => if knowsParts T ti.desc then (fillA (placesA T ti.desc) ti.zero parts).map .agg else none

/-- The rows of a literal of a slice. -/
def fillRows (size : Nat) (rows : List (List AV)) : List (Nat × AV) → Option (List (List AV))
  | [] => some rows
  | (i, v) :: rest =>
    if (cellsA v).length == size && (cellsA v).all okc && Nat.blt i rows.length then fillRows size (rows.set i (cellsA v)) rest else none

def unA (op : UnOp) (x : AV) : Option AV :=
  match op, x with
  | .neg, .int k n => some (.int k (k.wrap (0 - n)))
  | .xor, .int k n => some (.int k (k.wrap ((BitVec.ofInt k.bits (if k.signed then -1 else k.max) ^^^ BitVec.ofInt k.bits n).toNat)))
  | .not, .bool b => some (.bool !b)
  | _, _ => none

/-- Is it nil? (of the values of a type that can be) -/
def nilA (h : Heap) (d : TypeDesc) (x : AV) : Option Bool :=
  match d, x with
  | .slice _, .nils | .pointer _, .nilp | .func _ _ _, .nilf | .map _ _, .nilm => some true
  | .slice _, .vs _ _ | .pointer _, .vp _ _ | .pointer _, .gp _ _ | .func _ _ _, .fn _ _ _ => some false
  | .slice _, .ms b _ _ _ | .pointer _, .ptr b _ _ | .map _ _, .mp b => match h.blk? b with | some _ => some false | none => none
  | _, _ => none

/-- The literal nil. -/
def isNil (d : TypeDesc) (x : AV) : Bool :=
  match d, x with
  | .slice _, .nils | .pointer _, .nilp | .func _ _ _, .nilf | .map _ _, .nilm => true
  | _, _ => false

/-- Equality of the parts of two structs. -/
def eqFieldsA (T : Tab) (eq : TypeId → AV → AV → Option Bool) (xs ys : List AV) : List Field → Option Bool
  | [] => some true
  | f :: fs =>
    if f.name = "_" then none else
    match T f.type with
    | none => none
    | some fi =>
      match partA fi xs f.offset, partA fi ys f.offset with
      | some a, some b =>
        match eq f.type a b, eqFieldsA T eq xs ys fs with
        | some p, some q => some (p && q)
        | _, _ => none
      | _, _ => none

/-- Equality of the elements of two arrays. -/
def eqElemsA (ei : TI) (eq : AV → AV → Option Bool) (xs ys : List AV) : List Nat → Option Bool
  | [] => some true
  | i :: is =>
    match partA ei xs (i * ei.size), partA ei ys (i * ei.size) with
    | some a, some b =>
      match eq a b, eqElemsA ei eq xs ys is with
      | some p, some q => some (p && q)
      | _, _ => none
    | _, _ => none

/-- Equality of values of types without memory: bools, ints, strings, and structs and arrays of these. -/
def eqA (T : Tab) : Nat → TypeId → AV → AV → Option Bool
  | 0, _, _, _ => none
  | n + 1, t, x, y =>
    match T t with
    | none => none
    | some ti =>
      match ti.desc, x, y with
      | .bool, .bool a, .bool b => some (a == b)
      | .int _, .int k a, .int k' b => if k = k' then some (a == b) else none
      | .string, .str a, .str b => some (a == b)
      | .struct fs, .agg xs, .agg ys => if ti.cmp then eqFieldsA T (eqA T n) xs ys fs.toList else none
      | .array len e, .agg xs, .agg ys =>
        if ti.cmp then (match T e with | none => none | some ei => eqElemsA ei (eqA T n e) xs ys (List.range len)) else none
      | _, _, _ => none

def intA (op : BinOp) (k : IntKind) (a b : Int) : Option AV :=
  match op with
  | .add => some (.int k (k.wrap (a + b)))
  | .sub => some (.int k (k.wrap (a - b)))
  | .mul => some (.int k (k.wrap (a * b)))
  | .and => some (.int k (k.wrap ((BitVec.ofInt k.bits a &&& BitVec.ofInt k.bits b).toNat)))
  | .or => some (.int k (k.wrap ((BitVec.ofInt k.bits a ||| BitVec.ofInt k.bits b).toNat)))
  | .xor => some (.int k (k.wrap ((BitVec.ofInt k.bits a ^^^ BitVec.ofInt k.bits b).toNat)))
  | .andNot => some (.int k (k.wrap ((BitVec.ofInt k.bits a &&& ~~~ BitVec.ofInt k.bits b).toNat)))
  | .eql => some (.bool (a == b))
  | .neq => some (.bool (a != b))
  | .lss => some (.bool (a < b))
  | .leq => some (.bool (a ≤ b))
  | .gtr => some (.bool (a > b))
  | .geq => some (.bool (a ≥ b))
  | _ => none

def strA (op : BinOp) (a b : List UInt8) : Option AV :=
  match op with
  | .eql => some (.bool (a == b))
  | .neq => some (.bool !(a == b))
  | .lss => some (.bool (Op.bytesLess a b))
  | .leq => some (.bool (Op.bytesLess a b || a == b))
  | .gtr => some (.bool !(Op.bytesLess a b || a == b))
  | .geq => some (.bool !Op.bytesLess a b)
  | _ => none

/-- An operation with two operands. -/
def binW (T : Tab) (h : Heap) (op : BinOp) (t : TypeId) (x y : AV) (K : AV → Prop) : Prop :=
  match op, x, y with
  | .shl, .int k a, .int _ b => 0 ≤ b ∧ K (.int k (k.wrap (a * 2 ^ (min b.toNat k.bits))))
  | .shr, .int k a, .int _ b => 0 ≤ b ∧ K (.int k (a.fdiv (2 ^ (min b.toNat k.bits))))
  | .quo, .int k a, .int k' b => if k = k' then b ≠ 0 ∧ K (.int k (k.wrap (a.tdiv b))) else False
  | .rem, .int k a, .int k' b => if k = k' then b ≠ 0 ∧ K (.int k (a.tmod b)) else False
  | op, .int k a, .int k' b => if k = k' then (match intA op k a b with | some r => K r | none => False) else False
  | .add, .str a, .str b => ((a.length + b.length : Nat) : Int) ≤ 9223372036854775807 ∧ K (.str (a ++ b))
  | op, .str a, .str b => match strA op a b with | some r => K r | none => False
  | .eql, x, y =>
    match T t with
    | none => False
    | some ti =>
      if isNil ti.desc x then (match nilA h ti.desc y with | some b => K (.bool b) | none => False)
      else if isNil ti.desc y then (match nilA h ti.desc x with | some b => K (.bool b) | none => False)
      else match eqA T 100 t x y with | some b => K (.bool b) | none => False
  | .neq, x, y =>
    match T t with
    | none => False
    | some ti =>
      if isNil ti.desc x then (match nilA h ti.desc y with | some b => K (.bool !b) | none => False)
      else if isNil ti.desc y then (match nilA h ti.desc x with | some b => K (.bool !b) | none => False)
      else match eqA T 100 t x y with | some b => K (.bool !b) | none => False
  | _, _, _ => False

/-- A conversion. -/
def convW (T : Tab) (h : Heap) (src dst : TypeId) (x : AV) (K : AV → Heap → Prop) : Prop :=
  match T src, T dst with
  | some _, some di =>
    match di.desc, x with
    | .int k, .int _ n => K (.int k (k.wrap n)) h
    | .string, .str s => K (.str s) h
    | _, _ => False
  | _, _ => False

/-- An index that is in bounds gives the address of an element. -/
def indexGlobW (T : Tab) (t : TypeId) (g j : Nat) (ix : AV) (K : AV → Prop) : Prop :=
  match T t, ix with
  | some ti, .int _ i =>
    match ti.desc with
    | .array n e =>
      match T e with
      | none => False
      | some ei => (0 ≤ i ∧ i < n) ∧ K (.gp g (j + i.toNat * ei.size))
    | _ => False
  | _, _ => False

def indexMemW (T : Tab) (h : Heap) (t : TypeId) (x ix : AV) (K : AV → Prop) : Prop :=
  match T t, ix with
  | some ti, .int _ i =>
    match ti.desc, x with
    | .slice e, .ms b s len _ =>
      match T e with
      | none => False
      | some ei => (0 ≤ i ∧ i < len) ∧ 0 < ei.size ∧ (match h.blk? b with | some (.rows rs _ _) => (∃ row, rs[s + i.toNat]? = some row ∧ row.length = ei.size) | _ => False) ∧ K (.ptr b (s + i.toNat) 0)
    | .slice e, .vs es _ =>
      match T e with
      | none => False
      | some ei => (0 ≤ i ∧ i < es.length) ∧ ∃ row, es[i.toNat]? = some row ∧ row.length = ei.size ∧ K (.vp row 0)
    | .array n e, .ptr b r j =>
      match T e with
      | none => False
      | some ei => (0 ≤ i ∧ i < n) ∧ (match h.blk? b with | some (.rows rs _ _) => (match rs[r]? with | some row => j + i.toNat * ei.size < row.length | none => False) | _ => False) ∧ K (.ptr b r (j + i.toNat * ei.size))
    | .array n e, .vp row j =>
      match T e with
      | none => False
      | some ei => (0 ≤ i ∧ i < n) ∧ K (.vp row (j + i.toNat * ei.size))
    | _, _ => False
  | _, _ => False

def indexAddrW (T : Tab) (h : Heap) (t : TypeId) (x ix : AV) (K : AV → Prop) : Prop :=
  match x with
  | .gp g j => indexGlobW T t g j ix K
  | _ => indexMemW T h t x ix K

/-- The element of an array or of a string. -/
def indexW (T : Tab) (t : TypeId) (x ix : AV) (K : AV → Prop) : Prop :=
  match T t, ix with
  | some ti, .int _ i =>
    match ti.desc, x with
    | .array n e, .agg cs =>
      match T e with
      | none => False
      | some ei => (0 ≤ i ∧ i < n) ∧ ∃ r, partA ei cs (i.toNat * ei.size) = some r ∧ K r
    | .string, .str s => 0 ≤ i ∧ ∃ c, s[i.toNat]? = some c ∧ K (.int .u8 c.toNat)
    | _, _ => False
  | _, _ => False

/-- The bounds of a slice expression, as they are said. -/
def lowA : Option AV → Option Int
  | none => some 0
  | some (.int _ n) => some n
  | _ => none
def highA (len : Nat) : Option AV → Option Int
  | none => some len
  | some (.int _ n) => some n
  | _ => none

def sliceW (T : Tab) (h : Heap) (t : TypeId) (x : AV) (lo hi mx : Option AV) (K : AV → Prop) : Prop :=
  match T t with
  | none => False
  | some ti =>
    match ti.desc, x with
    | .string, .str s =>
      match mx, lowA lo, highA s.length hi with
      | none, some l, some u => (0 ≤ l ∧ l ≤ u ∧ u ≤ s.length) ∧ K (.str ((s.take u.toNat).drop l.toNat))
      | _, _, _ => False
    | .slice e, .vs es capo =>
      match T e, lowA lo, highA es.length hi, mx with
      | some ei, some l, some u, none => (0 ≤ l ∧ l ≤ u ∧ u ≤ es.length) ∧ (∀ row ∈ es, row.length = ei.size) ∧ K (.vs ((es.take u.toNat).drop l.toNat) (capo.map (· - l.toNat)))
      | some ei, some l, some u, some (.int _ m) => hi.isSome = true ∧ (0 ≤ l ∧ l ≤ u ∧ u ≤ m ∧ m ≤ es.length) ∧ (∀ row ∈ es, row.length = ei.size) ∧ K (.vs ((es.take u.toNat).drop l.toNat) (some (m.toNat - l.toNat)))
      | _, _, _, _ => False
    | .slice e, .nils =>
      match T e, lowA lo, highA 0 hi, mx with
      | some _, some l, some u, none => (l = 0 ∧ u = 0) ∧ K .nils
      | some _, some l, some u, some (.int _ m) => hi.isSome = true ∧ (l = 0 ∧ u = 0 ∧ m = 0) ∧ K .nils
      | _, _, _, _ => False
    | .slice e, .ms b s len capo =>
      match T e, lowA lo, highA len hi with
      | some ei, some l, some u =>
        match mx with
        | none => (0 ≤ l ∧ l ≤ u ∧ u ≤ len) ∧ (match h.blk? b with | some (.rows rs _ _) => (∀ row ∈ rs, row.length = ei.size) | _ => False) ∧
            ((l = 0 ∨ l < u) ∧ K (.ms b (s + l.toNat) (u.toNat - l.toNat) (capo.map (· - l.toNat))) ∨ l = u ∧ K (.vs [] none))
        | some (.int _ m) => hi.isSome = true ∧ (0 ≤ l ∧ l ≤ u ∧ u ≤ m ∧ m ≤ len) ∧ (match h.blk? b with | some (.rows rs _ _) => (∀ row ∈ rs, row.length = ei.size) | _ => False) ∧
            ((l = 0 ∨ l < m) ∧ K (.ms b (s + l.toNat) (u.toNat - l.toNat) (some (m.toNat - l.toNat))) ∨ l = m ∧ K (.vs [] (some 0)))
        | _ => False
      | _, _, _ => False
    | _, _ => False

/-- What an append adds. -/
def rowsOf (h : Heap) (x : AV) : Option (List (List AV)) :=
  match x with
  | .vs es _ => some es
  | .nils => some []
  | .str s => some (s.map fun c => [.int .u8 c.toNat])
  | .ms b i len _ => match h.blk? b with | some (.rows rs _ _) => if i + len ≤ rs.length then some ((rs.drop i).take len) else none | _ => none
  | _ => none

/-- append: at the end of a block that may have grown (then the old one may be shared), into rows that are known to be there, or a new block. -/
def appendW (T : Tab) (h : Heap) (t : TypeId) (s x : AV) (K : AV → Heap → Prop) : Prop :=
  match T t with
  | some { desc := .slice e, .. } =>
    match T e, rowsOf h x with
    | some ei, some new =>
      (0 < ei.size ∧ 0 < ei.bytes) ∧ (∀ row ∈ new, row.length = ei.size ∧ row.all okc = true) ∧
      match s with
      | .nils => if new.length = 0 then K .nils h else ((new.length * ei.bytes ≤ 140737488355328) ∧ K (.ms h.blks.length 0 new.length none) (h.push (.rows new true false)))
      | .vs es capo => if new.length = 0 then K (.vs es capo) h else
          (∃ c, capo = some c ∧ c < es.length + new.length) ∧ (∀ row ∈ es, row.length = ei.size ∧ row.all okc = true) ∧ ((es.length + new.length) * ei.bytes ≤ 140737488355328) ∧ K (.ms h.blks.length 0 (es.length + new.length) none) (h.push (.rows (es ++ new) true false))
      | .ms b i len capo =>
        match h.blk? b with
        | some (.rows rs g false) =>
          if new.length = 0 then K (.ms b i len capo) h else
          (∀ row ∈ rs, row.length = ei.size ∧ row.all okc = true) ∧ ((len + new.length) * ei.bytes ≤ 140737488355328) ∧
          match capo with
          | none => (i = 0 ∧ 0 < len ∧ len = rs.length) ∧ K (.ms b 0 (len + new.length) none) (h.put b (.rows (rs ++ new) true false))
          | some c => (c < len + new.length ∧ i + len ≤ rs.length ∧ K (.ms h.blks.length 0 (len + new.length) none) (h.push (.rows ((rs.drop i).take len ++ new) true false))) ∨
              (len + new.length ≤ c ∧ g = false ∧ i + len + new.length ≤ rs.length ∧ K (.ms b i (len + new.length) (some c)) (h.put b (.rows (rs.take (i + len) ++ new ++ rs.drop (i + len + new.length)) false false)))
        | _ => False
      | _ => False
    | _, _ => False
  | _ => False

/-- len. -/
def lenW (T : Tab) (h : Heap) (t : TypeId) (x : AV) (K : AV → Prop) : Prop :=
  match T t with
  | none => False
  | some ti =>
    match ti.desc, x with
    | .string, .str s => K (.int .i64 s.length)
    | .array n _, _ => K (.int .i64 n)
    | .slice _, .vs es _ => K (.int .i64 es.length)
    | .slice _, .ms b _ len _ => match h.blk? b with | some (.rows _ _ _) => K (.int .i64 len) | _ => False
    | .slice _, .nils => K (.int .i64 0)
    | _, _ => False

def intsA : List AV → Option (IntKind × List Int)
  | [] => none
  | [.int k n] => some (k, [n])
  | .int k n :: r => match intsA r with
    | some (k', l) => if k = k' then some (k, n :: l) else none
    | none => none
  | _ => none

def makeSliceW (T : Tab) (h : Heap) (t : TypeId) (l c : AV) (K : AV → Heap → Prop) : Prop :=
  match T t, l, c with
  | some { desc := .slice e, .. }, .int _ l, .int _ c =>
    match T e with
    | none => False
    | some ei => (0 ≤ l ∧ l ≤ c ∧ (ei.bytes : Int) * c ≤ 140737488355328 ∧ c ≤ 140737488355328) ∧ 0 < ei.size ∧ ei.zero.all okc = true ∧
        K (.ms h.blks.length 0 l.toNat (some c.toNat)) (h.push (.rows (List.replicate c.toNat ei.zero) false false))
  | _, _, _ => False

def buildSliceW (T : Tab) (h : Heap) (t : TypeId) (len : Nat) (parts : List (Nat × AV)) (K : AV → Heap → Prop) : Prop :=
  match T t with
  | some { desc := .slice e, .. } =>
    match T e with
    | none => False
    | some ei => len * ei.size ≤ 2 ^ 24 ∧ 0 < ei.size ∧ ei.zero.all okc = true ∧
        match fillRows ei.size (List.replicate len ei.zero) parts with
        | none => False
        | some rows => K (.ms h.blks.length 0 len (some len)) (h.push (.rows rows false false)) ∨ K (.vs rows (some len)) h
  | _ => False

/-- A new variable. -/
def boxW (T : Tab) (h : Heap) (e : TypeId) (x : AV) (K : AV → Heap → Prop) : Prop :=
  match T e with
  | none => False
  | some ei => ((cellsA x).length = ei.size ∧ 0 < ei.size ∧ (cellsA x).all okc = true) ∧ K (.ptr h.blks.length 0 0) (h.push (.rows [cellsA x] false false))

def allocW (T : Tab) (h : Heap) (e : TypeId) (K : AV → Heap → Prop) : Prop :=
  match T e with
  | none => False
  | some ei => (0 < ei.size ∧ ei.zero.all okc = true) ∧ K (.ptr h.blks.length 0 0) (h.push (.rows [ei.zero] false false))

def nilCheckW (h : Heap) (x : AV) (K : AV → Prop) : Prop :=
  match x with
  | .ptr b i j => match h.blk? b with | some (.rows _ _ _) => K (.ptr b i j) | _ => False
  | .vp row j => K (.vp row j)
  | .gp g j => K (.gp g j)
  | .fn (.func f) a c => K (.fn (.func f) a c)
  | .yld l => match h.loop? l with | some _ => K (.yld l) | none => False
  | _ => False

end Go.Abs
