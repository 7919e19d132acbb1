import Derived.Orders
import Derived.RegionTactic
import Derived.KernelRfl
import Derived.Below
import Derived.WalkKit
import Derived.Laws.CopyRow
import Derived.Laws.MakeOwn
set_option linter.unusedVariables false
set_option linter.unusedSimpArgs false
namespace Go.Proofs.YtjlebmnlphjjoaaGreatDoor.Abs

/-- Plain values: what they hold is laid down once and read ever after. -/
inductive PV where
  | int (k : IntKind) (n : Int)
  | bool (b : Bool)
  | str (s : ByteArray)
  | nilp
  | nls
  | ls (s : Nat) (xs : List PV)
  | agg (cs : List PV)
  | tup (vs : List PV)
  | fp (cs : List PV) (o : Nat)
  | fn (f : FuncId) (fst cap : List PV)
  | nilf
  deriving Inhabited

def PV.cells : PV → List PV
  | .agg cs => cs
  | x => [x]

/-- What a slot may hold: plain · a fresh empty slice · a pointer into a box (key, version, element, cell) · a slice over a box (key, version, from, length, cells an element) · .. -/
inductive AV where
  | p (x : PV)
  | e0 (s : Nat)
  | mp (k v i o : Nat)
  | ms (k v o n s : Nat)
  | ag (cs : List AV)
  | tu (vs : List AV)
  | cl (f : FuncId) (fst cap : List AV)
  | un
  deriving Inhabited

def AV.cells : AV → List AV
  | .p (.agg cs) => cs.map .p
  | .ag cs => cs
  | x => [x]

inductive Opd where
  | t (n : Nat)
  | c (v : PV)
  | f (g : FuncId)
  | bad
  deriving Inhabited

abbrev Shape := List (Option Nat)

inductive AOp where
  | mv (x : Opd)
  | mvl (x : Opd) (k j : Nat)
  | pick (c a b : Opd)
  | alloc (el : PV)
  | box (x : Opd)
  | build (z : List PV) (ps : List (Nat × Nat × Opd))
  | mkls (s : Nat) (xs : List Opd) (mu : Bool)
  | load (agg : Bool) (n : Nat) (x : Opd)
  | store (n : Nat) (x v : Opd)
  | nilck (x : Opd)
  | bin (op : BinOp) (q : Nat × List Nat) (x y : Opd)
  | un (op : UnOp) (x : Opd)
  | conv (k : IntKind) (x : Opd)
  | bts (x : Opd)
  | mkfn (f : FuncId) (a c : List Opd)
  | mksl (s : Nat) (el : PV) (len cap : Opd)
  | slc (s : Nat) (x : Opd) (lo hi mx : Option Opd)
  | fad (o : Nat) (x : Opd)
  | fld (agg : Bool) (o n : Nat) (x : Opd)
  | iad (s : Nat) (arr : Option Nat) (x i : Opd)
  | idx (arr : Option (Nat × Nat × Bool)) (x i : Opd)
  | ext (x : Opd) (i : Nat)
  | call (f : Opd) (args : List Opd) (sh : List Shape)
  | len (st : Bool) (x : Opd)
  | maxmin (mx : Bool) (x y : Opd)
  | app (s : Nat) (x y : Opd)
  | clear (el : PV) (x : Opd)
  | no
  deriving Inhabited

structure AOper where
  dst : Option Nat
  op : AOp
  guard : Option (Nat × Bool)
  deriving Inhabited

inductive AC where
  | skip
  | region (draw : Bool) (ops : List AOper) (bef : List Nat)
  | seq (a b : AC)
  | cond (c : Opd) (x y : AC)
  | block (id : Nat) (b : AC)
  | loop (li lo : List Nat) (b : AC)
  | exit (id : Nat)
  | ret
  | no
  deriving Inhabited

inductive CMode where
  | pure | borrow | mu
  deriving Inhabited, DecidableEq

/-- A function: parameters, slots, results (a slot; or a slot with the address of a variable, struct or not, and its cells), code. -/
structure AF where
  np : Nat
  nt : Nat
  res : List (Nat ⊕ (Nat × Bool × Nat))
  sh : List Shape
  keep : Bool
  exp : Bool
  code : AC
  deriving Inhabited

/-! ### Compiling -/
def isAggT (P : Program) (t : TypeId) : Bool := match P.underlying t with
  | some (.struct _) | some (.array ..) => true
  | _ => false

/-- A text by the numbers of its bytes. -/
@[irreducible] def tx (l : List Nat) : ByteArray := ⟨(l.map UInt8.ofNat).toArray⟩
def toNats (b : ByteArray) : List Nat := b.data.toList.map UInt8.toNat
theorem tx_toNats (b : ByteArray) : tx (toNats b) = b := by
  unfold tx toNats
  apply ByteArray.ext
  apply Array.ext'
  simp [List.map_map, Function.comp_def]
theorem tx_size (l : List Nat) : (tx l).size = l.length := by
  unfold tx; simp [ByteArray.size]

def pvOf : Value → Option PV
  | .bool b => some (.bool b)
  | .int k n => some (.int k n)
  | .string s => some (.str (tx (toNats s)))
  | .pointer none => some .nilp
  | .slice none 0 0 => some .nls
  | .func (.func f) a c => if f < 10000 ∧ a.size = 0 ∧ c.size = 0 then some (.fn f [] []) else none
  | .nilFunc => some .nilf
  | _ => none

def pvAll : List Value → Option (List PV)
  | [] => some []
  | v :: r => match pvOf v, pvAll r with
    | some x, some xs => some (x :: xs)
    | _, _ => none

def zeroOf (P : Program) (t : TypeId) : Option (List PV) :=
  match P.info? t with
  | some i => match i.zero with
    | some z => pvAll z.cells.toList
    | none => none
  | none => none

def cOpd : Operand → Opd
  | .tmp t => .t t
  | .const v => match pvOf v with | some x => .c x | none => .bad
  | .global _ => .bad
  | .func f => if f < 10000 then .f f else .bad

/-- A callee, told as the v-th variant of it. -/
def opdV (v : Nat) : Opd → Opd
  | .f g => if g < 10000 then .f (g + 10000 * v) else .bad
  | x => x

def shapeOf (P : Program) : Nat → TypeId → Shape
  | 0, t => List.replicate (P.cellsOf t) none
  | d + 1, t => match P.underlying t with
    | some (.slice e) => [some (P.cellsOf e)]
    | some (.struct fs) => fs.toList.flatMap fun f => shapeOf P d f.type
    | some (.array n e) => (List.replicate n (shapeOf P d e)).flatten
    | _ => [none]

/-- The zero value as one value. -/
def zeroEl (P : Program) (t : TypeId) : Option PV :=
  match zeroOf P t with
  | some z => if z.length = P.cellsOf t then if isAggT P t then some (.agg z) else match z with | [x] => some x | _ => none else none
  | none => none

/-- What '==' compares: bools, pointers, slices, functions, flat structs. -/
def flatK (P : Program) (t : TypeId) : Option Nat := match P.underlying t with
  | some (.int _) => some 0
  | some .string => some 1
  | some .bool => some 2
  | _ => none

def flatKs (P : Program) : Nat → List Field → Option (List Nat)
  | _, [] => some []
  | i, f :: r => match flatK P f.type, flatKs P (i + 1) r with
    | some k, some ks => if f.name ≠ "_" ∧ f.offset = i then some (k :: ks) else none
    | _, _ => none

def eqKind (P : Program) (fl : List TypeId) (t : TypeId) : Nat × List Nat := match P.underlying t with
  | some .bool => (1, [])
  | some (.pointer _) => (2, [])
  | some (.slice _) => (3, [])
  | some (.func ..) => (4, [])
  | some (.struct fs) => match flatKs P 0 fs.toList with
    | some ks => if fl.contains t = true then (5, ks) else (0, [])
    | none => (0, [])
  | _ => (0, [])

/-- Struct types whose values may be compared as they stand. -/
def FlOk (P : Program) (fl : List TypeId) : Prop := ∀ t ∈ fl, P.stoodInHeld t = false ∧ P.eqGuardType P.depth t = false

structure Ann where
  flats : List TypeId := []
  loops : List (List Nat × List Nat) := []
  befs : List (Nat × List Nat) := []
  mu : List Nat := []
  lay : List (Nat × (Nat × Nat)) := []
  var : List (Nat × Nat) := []
  keep : Bool := false
  exp : Bool := false
  deriving Inhabited

/-- Which variant of its callee a call takes. -/
def varOf (a : Ann) (d : Option Nat) : Nat := match d with | some d => (a.var.lookup d).getD 0 | none => 0

def offs (P : Program) (fs : Array Field) (i : Nat) : Nat × Nat := match fs[i]? with | some f => (f.offset, P.cellsOf f.type) | none => (0, 0)

def okT (P : Program) (t : TypeId) : Bool := (P.info? t).isSome && (P.underlying t).isSome

def small (P : Program) (e : TypeId) : Bool := decide (P.bytesOf e ≤ 4096)

def cOp (P : Program) (a : Ann) (o : Oper) : AOp :=
  let mu := match o.dst with | some d => a.mu.contains d | none => false
  match o.op with
  | .move x | .assign x => match o.dst.bind (fun d => a.lay.lookup d) with | some q => .mvl (cOpd x) q.1 q.2 | none => .mv (cOpd x)
  | .pick c x y => .pick (cOpd c) (cOpd x) (cOpd y)
  | .alloc e => match zeroEl P e with | some z => .alloc z | none => .no
  | .box _ x => .box (cOpd x)
  | .build t ps => match zeroOf P t, P.underlying t with
    | some z, some (.struct fs) => if fs.toList.all (fun f => okT P f.type) && ps.toList.all (fun q => (fs[q.1]?).isSome) then .build z (ps.toList.map fun (i, x) => ((offs P fs i).1, (offs P fs i).2, cOpd x)) else .no
    | some z, some (.array _ e) => if okT P e then .build z (ps.toList.map fun (i, x) => (i * P.cellsOf e, P.cellsOf e, cOpd x)) else .no
    | _, _ => .no
  | .buildSlice t n ps => match P.underlying t with
    | some (.slice e) => if ps.toList.map (·.1) == List.range n && okT P e && (zeroOf P e).isSome && decide (n * P.cellsOf e ≤ 16777216 ∧ P.cellsOf e ≠ 0) then .mkls (P.cellsOf e) (ps.toList.map fun (_, x) => cOpd x) mu else .no
    | _ => .no
  | .load t x => if okT P t then .load (isAggT P t) (P.cellsOf t) (cOpd x) else .no
  | .store t x v => if okT P t then .store (P.cellsOf t) (cOpd x) (cOpd v) else .no
  | .nilCheck x => .nilck (cOpd x)
  | .binOp op t x y _ => .bin op (eqKind P a.flats t) (cOpd x) (cOpd y)
  | .unOp op _ x => .un op (cOpd x)
  | .convert s d x => match P.underlying s, P.underlying d with
    | some (.int _), some (.int k) => .conv k (cOpd x)
    | some (.slice e), some .string => match P.underlying e with | some (.int .u8) => .bts (cOpd x) | _ => .no
    | _, _ => .no
  | .makeFunc (.func f) x y => if f < 10000 then .mkfn f (x.toList.map cOpd) (y.toList.map cOpd) else .no
  | .makeSlice t l c => match P.underlying t with
    | some (.slice e) => match small P e && okT P e, zeroEl P e with
      | true, some z => .mksl (P.cellsOf e) z (cOpd l) (cOpd c)
      | _, _ => .no
    | _ => .no
  | .slice t x l h m => match P.underlying t with
    | some .string => .slc 0 (cOpd x) (l.map cOpd) (h.map cOpd) (m.map cOpd)
    | some (.slice e) => if okT P e ∧ P.cellsOf e ≠ 0 then .slc (P.cellsOf e) (cOpd x) (l.map cOpd) (h.map cOpd) (m.map cOpd) else .no
    | _ => .no
  | .fieldAddr t x i => match P.underlying t with
    | some (.struct fs) => match fs[i]? with | some f => if P.cellsOf f.type = 0 then .no else .fad f.offset (cOpd x) | none => .no
    | _ => .no
  | .field t x i => match P.underlying t with
    | some (.struct fs) => match fs[i]? with | some f => if okT P f.type then .fld (isAggT P f.type) f.offset (P.cellsOf f.type) (cOpd x) else .no | none => .no
    | _ => .no
  | .indexAddr t x i => match P.underlying t with
    | some (.slice e) => if okT P e then .iad (P.cellsOf e) none (cOpd x) (cOpd i) else .no
    | some (.array n e) => if okT P e then .iad (P.cellsOf e) (some n) (cOpd x) (cOpd i) else .no
    | _ => .no
  | .index t x i => match P.underlying t with
    | some .string => .idx none (cOpd x) (cOpd i)
    | some (.array n e) => if okT P e then .idx (some (n, P.cellsOf e, isAggT P e)) (cOpd x) (cOpd i) else .no
    | _ => .no
  | .extract x i => .ext (cOpd x) i
  | .call c => match c.callee with
    | .value f => .call (opdV (varOf a o.dst) (cOpd f)) (c.args.toList.map cOpd) (c.argTypes.toList.map (shapeOf P 4))
    | .builtin .len => match c.args.toList, (c.argTypes[0]?).bind P.underlying with
      | [x], some (.slice _) => .len false (cOpd x)
      | [x], some .string => .len true (cOpd x)
      | _, _ => .no
    | .builtin .max => match c.args.toList with | [x, y] => .maxmin true (cOpd x) (cOpd y) | _ => .no
    | .builtin .min => match c.args.toList with | [x, y] => .maxmin false (cOpd x) (cOpd y) | _ => .no
    | .builtin .append => match c.args.toList, (c.argTypes[0]?).bind P.underlying with
      | [x, y], some (.slice e) => if small P e && okT P e && (zeroEl P e).isSome && c.argTypes[0]? == c.argTypes[1]? then .app (P.cellsOf e) (cOpd x) (cOpd y) else .no
      | _, _ => .no
    | .builtin .clear => match c.args.toList, (c.argTypes[0]?).bind P.underlying with
      | [x], some (.slice e) => if okT P e then match zeroEl P e with | some z => .clear z (cOpd x) | none => .no else .no
      | _, _ => .no
    | _ => .no
  | _ => .no

def cOper (P : Program) (nt : Nat) (a : Ann) (ops : Array Oper) (o : Oper) : AOper :=
  { dst := o.dst, op := (match o.dst with | some d => if d < nt then cOp P a o else .no | none => cOp P a o), guard := match o.guard with
      | none => none
      | some (j, w) => match (ops[j]?).bind (·.dst) with | some d => some (d, w) | none => some (nt, w) }

/-- The operands of an operation. -/
def AOp.opnds : AOp → List Opd
  | .mv x | .mvl x _ _ | .nilck x | .un _ x | .conv _ x | .bts x | .fad _ x | .fld _ _ _ x | .ext x _ | .len _ x | .clear _ x | .load _ _ x | .box x => [x]
  | .pick c a b => [c, a, b]
  | .alloc _ | .no => []
  | .build _ ps => ps.map fun q => q.2.2
  | .mkls _ xs _ => xs
  | .store _ x v => [x, v]
  | .bin _ _ x y | .iad _ _ x y | .idx _ x y | .maxmin _ x y | .app _ x y => [x, y]
  | .mkfn _ a c => a ++ c
  | .mksl _ _ l c => [l, c]
  | .slc _ x lo hi mx => x :: (lo.toList ++ hi.toList ++ mx.toList)
  | .call f args _ => f :: args

def slotOf : Opd → Option Nat
  | .t n => some n
  | _ => none

/-- The slots that an operation looks at. -/
def AOper.looks (o : AOper) : List Nat :=
  o.op.opnds.filterMap slotOf ++ (match o.guard with | some q => [q.1] | none => [])

def AOper.clear (x y : AOper) : Bool :=
  (match x.dst with | some d => !y.looks.contains d && y.dst != some d | none => true) && (match y.dst with | some d => !x.looks.contains d | none => true)

/-- A drawn region: what goes ahead of an operation stands ahead of it; bef tells all that goes ahead; what is left open touches different slots. -/
def regOk (ops : List AOper) (bef : List Nat) (pre : List (List Nat)) : Bool :=
  (List.range ops.length).all fun j =>
    (pre.getD j []).all (fun e => decide (e < j)) &&
    (List.range j).all fun i => if (bef.getD j 0).testBit i then (pre.getD j []).any (fun e => e == i || (decide (i < e) && (bef.getD e 0).testBit i)) else (ops.getD i default).clear (ops.getD j default)

/-- Code, with the loops' live slots taken from a list in the order of the text. -/
def cCode (P : Program) (nt : Nat) (a : Ann) : Code → List (List Nat × List Nat) → AC × List (List Nat × List Nat)
  | .skip, l => (.skip, l)
  | .region id ops d, l => (.region d (ops.toList.map (cOper P nt a ops)) (if d then (a.befs.lookup id).getD [] else []), l)
  | .seq x y, l => let r := cCode P nt a x l; let q := cCode P nt a y r.2; (.seq r.1 q.1, q.2)
  | .cond c x y, l => let r := cCode P nt a x l; let q := cCode P nt a y r.2; (.cond (cOpd c) r.1 q.1, q.2)
  | .block id b, l => let r := cCode P nt a b l; (.block id r.1, r.2)
  | .loop b, l => match l with
    | [] => (.no, [])
    | x :: l => let r := cCode P nt a b l; (.loop x.1 x.2 r.1, r.2)
  | .exit id, l => (.exit id, l)
  | .ret, l => (.ret, l)
  | _, l => (.no, l)

/-- All the drawn regions of a code keep their orders. -/
def codeOk (P : Program) (nt : Nat) (a : Ann) : Code → Bool
  | .region id ops d => if d then regOk (ops.toList.map (cOper P nt a ops)) ((a.befs.lookup id).getD []) (ops.toList.map fun o => (o.after.toList.filter (Region.binds .any)).map fun e => e.on) else true
  | .seq x y => codeOk P nt a x && codeOk P nt a y
  | .cond _ x y => codeOk P nt a x && codeOk P nt a y
  | .block _ b => codeOk P nt a b
  | .loop b => codeOk P nt a b
  | _ => true

def fnOk (P : Program) (a : Ann) (f : Func) : Bool := match f.body with | some c => codeOk P f.ntmps a c | none => true

def cFn (P : Program) (a : Ann) (f : Func) : AF :=
  { np := f.params.size + f.nfree, nt := f.ntmps, keep := a.keep, exp := a.exp
    sh := f.resultTypes.toList.map (shapeOf P 4)
    res := f.results.toList.map fun | .tmp t => .inl t | .cell x t => .inr (x, isAggT P t, P.cellsOf t)
    code := if f.name == "runtime.NumGoroutine" || f.params.size + f.nfree > f.ntmps || !f.results.toList.all (fun | .tmp _ => true | .cell _ t => okT P t) then .no else match f.body with | some c => (cCode P f.ntmps a c a.loops).1 | none => .no }

end Go.Proofs.YtjlebmnlphjjoaaGreatDoor.Abs
namespace Go.Proofs.YtjlebmnlphjjoaaGreatDoor.Abs

/-- What is known of a box: its version, and what it holds. -/
abbrev K := Nat × Option (List AV)

structure Fr where
  t : Nat → AV
  s : Nat → K

inductive AX where
  | norm | ex (id : Nat) | ret
  deriving Inhabited, DecidableEq

/-- What a call gives: the value, the boxes it was handed as they are behind it, boxes of its own that it hands out. -/
structure Out where
  r : AV
  b : List (List PV)
  x : List (List AV)

abbrev CFT := FuncId → List AV → List (List PV) → Option Out

def upd {α : Type} (f : Nat → α) (k : Nat) (x : α) : Nat → α := fun j => if j = k then x else f j

def Fr.put (fr : Fr) (d : Option Nat) (x : AV) : Fr :=
  match d with | none => fr | some d => { fr with t := upd fr.t d x }

def gv (t : Nat → AV) : Opd → AV
  | .t n => t n
  | .c x => .p x
  | .f g => .p (.fn g [] [])
  | .bad => .un

def plainAll : List AV → Option (List PV)
  | [] => some []
  | .p x :: r => match plainAll r with | some xs => some (x :: xs) | none => none
  | _ => none

/-- Cells as one value. -/
def ofCells (agg : Bool) (cs : List AV) : AV :=
  match agg with
  | true => match plainAll cs with | some xs => .p (.agg xs) | none => .ag cs
  | false => match cs with | [x] => x | _ => .un

def pcells (agg : Bool) (cs : List PV) : Option AV :=
  match agg with
  | true => some (.p (.agg cs))
  | false => match cs with | [x] => some (.p x) | _ => none

/-- A box's content, if the version fits. -/
def lk (s : Nat → K) (k v : Nat) : Option (List AV) := if (s k).1 = v then (s k).2 else none

/-- A value that may lie in a variable. -/
def vok : AV → Bool
  | .p (.tup _) => false
  | .tu _ => false
  | .cl .. => false
  | .un => false
  | _ => true

/-- A value that is no struct, no tuple, no closure over boxes. -/
def cellish : AV → Bool
  | .ag _ => false
  | .tu _ => false
  | .cl .. => false
  | _ => true

/-! ### Plain values of handles -/
def freezeC (s : Nat → K) : AV → Option PV
  | .p x => some x
  | .e0 s => some (.ls s [])
  | .ms k v o n z => match lk s k v with
      | some els => match plainAll els with
        | some ps => some (.ls z ((ps.drop o).take n))
        | none => none
      | none => none
  | .mp k v i o => match lk s k v with
      | some els => match els[i]? with
        | some el => match plainAll el.cells with
          | some ps => some (.fp ps o)
          | none => none
        | none => none
      | none => none
  | _ => none

def freezeCs (s : Nat → K) : List AV → Option (List PV)
  | [] => some []
  | x :: r => match freezeC s x with
    | some y => match freezeCs s r with
      | some ys => some (y :: ys)
      | none => none
    | none => none

def normC (sh : Option Nat) (x : PV) : PV :=
  match sh with
  | some s => match x with | .nls => .ls s [] | x => x
  | none => x

def normCs : Shape → List PV → List PV
  | _, [] => []
  | [], xs => xs
  | s :: sh, x :: r => normC s x :: normCs sh r

def normP (sh : Shape) : PV → PV
  | .agg cs => .agg (normCs sh cs)
  | x => match sh with | [s] => normC s x | _ => x

/-- A value handed over whole: plain, its boxes laid down. -/
def frz (s : Nat → K) (sh : Shape) : AV → Option PV
  | .p x => some (normP sh x)
  | .ag cs => match freezeCs s cs with | some ps => some (.agg (normCs sh ps)) | none => none
  | .cl f a c => match freezeCs s a with
    | some a' => match freezeCs s c with | some c' => some (.fn f a' c') | none => none
    | none => none
  | x => freezeC s x

def freezes (s : Nat → K) : List Shape → List AV → Option (List PV)
  | _, [] => some []
  | sh, x :: r => match frz s (sh.headD []) x with
    | some y => match freezes s sh.tail r with
      | some ys => some (y :: ys)
      | none => none
    | none => none

/-! ### Plain values of handles, two levels deep -/
def freezeE (s : Nat → K) : AV → Option PV
  | .p x => some x
  | .ag cs => match freezeCs s cs with | some ps => some (.agg ps) | none => none
  | x => freezeC s x

def freezeEs (s : Nat → K) : List AV → Option (List PV)
  | [] => some []
  | x :: r => match freezeE s x with
    | some y => match freezeEs s r with
      | some ys => some (y :: ys)
      | none => none
    | none => none

def freezeCD (s : Nat → K) : AV → Option PV
  | .ms k v o n z => match lk s k v with
    | some els => match plainAll els with
      | some ps => some (.ls z ((ps.drop o).take n))
      | none => if o + n ≤ els.length then match freezeEs s ((els.drop o).take n) with | some ps => some (.ls z ps) | none => none else none
    | none => none
  | x => freezeC s x

def freezeCDs (s : Nat → K) : List AV → Option (List PV)
  | [] => some []
  | x :: r => match freezeCD s x with
    | some y => match freezeCDs s r with
      | some ys => some (y :: ys)
      | none => none
    | none => none

def frzD (s : Nat → K) (sh : Shape) : AV → Option PV
  | .p x => some (normP sh x)
  | .ag cs => match freezeCDs s cs with | some ps => some (.agg (normCs sh ps)) | none => none
  | .cl .. => none
  | x => freezeCD s x

def freezesD (s : Nat → K) : List Shape → List AV → Option (List PV)
  | _, [] => some []
  | sh, x :: r => match frzD s (sh.headD []) x with
    | some y => match freezesD s sh.tail r with
      | some ys => some (y :: ys)
      | none => none
    | none => none

def freezesX (s : Nat → K) (sh : List Shape) (as : List AV) : Option (List PV) := match freezes s sh as with
  | some ps => some ps
  | none => freezesD s sh as

/-! ### Values that say nothing of memory but handles -/
def flat0 : PV → Bool
  | .int .. => true
  | .bool _ => true
  | .str _ => true
  | .nilp => true
  | .nls => true
  | .nilf => true
  | .ls _ [] => true
  | _ => false
def flat1 : PV → Bool
  | .agg cs => cs.all flat0
  | x => flat0 x
def flatC : AV → Bool
  | .p x => flat0 x
  | .e0 _ => true
  | .mp .. => true
  | .ms .. => true
  | _ => false
def flatV : AV → Bool
  | .p x => flat1 x
  | .ag cs => cs.all flatC
  | x => flatC x
def flatA : AV → Bool
  | .p (.tup vs) => vs.all flat1
  | .tu vs => vs.all flatV
  | x => flatV x

/-- The boxes that a value leads to. -/
def keysC : AV → List Nat
  | .mp k _ _ _ => [k]
  | .ms k _ _ _ _ => [k]
  | _ => []

def keysV : AV → List Nat
  | .p _ => []
  | .ag cs => cs.flatMap keysC
  | .tu vs => vs.flatMap fun | .ag cs => cs.flatMap keysC | x => keysC x
  | .cl _ a c => a.flatMap keysC ++ c.flatMap keysC
  | x => keysC x

/-- What lies in boxes whose content is not plain. -/
def keysI (s : Nat → K) (k : Nat) : List Nat := match (s k).2 with
  | some els => match plainAll els with
    | some _ => []
    | none => els.flatMap keysV
  | none => []

def keysD (s : Nat → K) (x : AV) : List Nat := keysV x ++ (keysV x).flatMap (keysI s)

def kill (s : Nat → K) (ks : List Nat) : List (Nat × K) := ks.map fun k => (k, ((s k).1 + 1, none))

/-! ### Calls -/
def posOf (k : Nat) : List Nat → Option Nat
  | [] => none
  | a :: r => if a = k then some 0 else match posOf k r with | some i => some (i + 1) | none => none

/-- A value as a callee that writes is handed it: boxes by their place in ks. -/
def handC (ks : List Nat) (s : Nat → K) (sh : Option Nat) : AV → Option AV
  | .p x => some (.p (normC sh x))
  | .e0 s => some (.p (.ls s []))
  | .mp k v i o => if (s k).1 = v then match posOf k ks with | some j => some (.mp (900 + j) 0 i o) | none => some .un else none
  | .ms k v o n z => if (s k).1 = v then match posOf k ks with | some j => some (.ms (900 + j) 0 o n z) | none => some .un else none
  | _ => none

def handCs (ks : List Nat) (s : Nat → K) : Shape → List AV → Option (List AV)
  | _, [] => some []
  | sh, x :: r => match handC ks s (sh.headD none) x with
    | some y => match handCs ks s sh.tail r with
      | some ys => some (y :: ys)
      | none => none
    | none => none

def hand (ks : List Nat) (s : Nat → K) (sh : Shape) : AV → Option AV
  | .p x => some (.p (normP sh x))
  | .ag cs => match handCs ks s sh cs with | some cs' => some (.ag cs') | none => none
  | .cl f a c => match handCs ks s [] a with
    | some a' => match handCs ks s [] c with | some c' => some (.cl f a' c') | none => none
    | none => none
  | x => handC ks s none x

def hands (ks : List Nat) (s : Nat → K) : List Shape → List AV → Option (List AV)
  | _, [] => some []
  | sh, x :: r => match hand ks s (sh.headD []) x with
    | some y => match hands ks s sh.tail r with
      | some ys => some (y :: ys)
      | none => none
    | none => none

def dedup : List Nat → List Nat
  | [] => []
  | k :: r => if (dedup r).contains k then dedup r else k :: dedup r

def blocksOf (s : Nat → K) : List Nat → Option (List (List PV))
  | [] => some []
  | k :: r => match (s k).2 with
    | some els => match plainAll els with
      | some ps => match blocksOf s r with
        | some bs => some (ps :: bs)
        | none => none
      | none => none
    | none => none

/-- The key of the j-th box that a call hands out, where its value goes to slot d. -/
def xkey (d j : Nat) : Nat := 100000 * (j + 1) + d

/-- A handle that comes back, in the caller's own numbers (nx: how many boxes are handed out). -/
def backC (ks : List Nat) (nx : Nat) (s : Nat → K) (d : Nat) : AV → Option AV
  | .p x => some (.p x)
  | .e0 z => some (.e0 z)
  | .mp j _ i o => if j < 900 then none else if j < 950 then match ks[j - 900]? with | some k => some (.mp k (s k).1 i o) | none => none
      else if j - 950 < nx then some (.mp (xkey d (j - 950)) ((s (xkey d (j - 950))).1 + 1) i o) else none
  | .ms j _ o n z => if j < 900 then none else if j < 950 then match ks[j - 900]? with | some k => some (.ms k (s k).1 o n z) | none => none
      else if j - 950 < nx then some (.ms (xkey d (j - 950)) ((s (xkey d (j - 950))).1 + 1) o n z) else none
  | _ => none

def backCs (ks : List Nat) (nx : Nat) (s : Nat → K) (d : Nat) : List AV → Option (List AV)
  | [] => some []
  | x :: r => match backC ks nx s d x with
    | some y => match backCs ks nx s d r with
      | some ys => some (y :: ys)
      | none => none
    | none => none

def backV (ks : List Nat) (nx : Nat) (s : Nat → K) (d : Nat) : AV → Option AV
  | .p x => some (.p x)
  | .ag cs => match backCs ks nx s d cs with | some cs' => some (.ag cs') | none => none
  | x => backC ks nx s d x

def backVs (ks : List Nat) (nx : Nat) (s : Nat → K) (d : Nat) : List AV → Option (List AV)
  | [] => some []
  | x :: r => match backV ks nx s d x with
    | some y => match backVs ks nx s d r with
      | some ys => some (y :: ys)
      | none => none
    | none => none

def back (ks : List Nat) (nx : Nat) (s : Nat → K) (d : Nat) : AV → Option AV
  | .p x => some (.p x)
  | .tu vs => match backVs ks nx s d vs with | some vs' => some (.tu vs') | none => none
  | x => backV ks nx s d x

def putBlocks (s : Nat → K) : List Nat → List (List PV) → List (Nat × K)
  | k :: r, b :: bs => (k, ((s k).1, some (b.map .p))) :: putBlocks s r bs
  | _, _ => []

/-- What the boxes hold that a call hands out. -/
def backX (ks : List Nat) (nx : Nat) (s : Nat → K) (d : Nat) : List (List AV) → Option (List (List AV))
  | [] => some []
  | x :: r => match backVs ks nx s d x with
    | some y => match backX ks nx s d r with
      | some ys => some (y :: ys)
      | none => none
    | none => none

def newBlocks (s : Nat → K) (d : Nat) : Nat → List (List AV) → List (Nat × K)
  | _, [] => []
  | j, b :: bs => (xkey d j, ((s (xkey d j)).1 + 1, some b)) :: newBlocks s d (j + 1) bs

structure Env where
  fn : FuncId → Option AF
  mode : FuncId → CMode
  ext : CFT

def isAtom : PV → Bool
  | .int .. | .bool _ | .str _ => true
  | _ => false

def atomA : AV → Bool
  | .p x => isAtom x
  | _ => false

/-- A box of plain content. -/
def plainB (s : Nat → K) (k : Nat) : Bool := match (s k).2 with
  | some els => (plainAll els).isSome
  | none => true

/-- The callee's number, and all its arguments. -/
def callee (f : AV) (args : List AV) (sh : List Shape) : Option (FuncId × List AV × List Shape) :=
  match f with
  | .p (.fn g a c) => some (g, a.map .p ++ args ++ c.map .p, a.map (fun _ => []) ++ sh)
  | .cl g a c => some (g, a ++ args ++ c, a.map (fun _ => []) ++ sh)
  | _ => none

/-- A call of g: the value, and what it turns. d: the slot that takes the value (its number names the boxes that are handed out). -/
def doCall (E : Env) (CF : CFT) (s : Nat → K) (d : Nat) (g : FuncId) (as : List AV) (sh : List Shape) : Option (AV × List (Nat × K)) :=
  match E.mode g with
  | .pure => match freezes s sh as with
    | none => none
    | some ps => (CF g (ps.map .p) []).bind fun o => if 13 < o.x.length then none else match back [] o.x.length s d o.r with
      | some r => match backX [] o.x.length s d o.x with
        | some xs => some (r, kill s (as.flatMap keysV) ++ newBlocks s d 0 xs)
        | none => none
      | none => none
  | .borrow => match freezesX s sh as with
    | none => none
    | some ps => (CF g (ps.map .p) []).bind fun o => if atomA o.r = true then some (o.r, []) else
        if 13 < o.x.length ∨ flatA o.r = false ∨ (o.x.all fun b => b.all flatV) = false then none else match back [] o.x.length s d o.r with
        | some r => match backX [] o.x.length s d o.x with
          | some xs => some (r, newBlocks s d 0 xs)
          | none => none
        | none => none
  | .mu =>
    let ks := (dedup (as.flatMap keysV)).filter (plainB s)
    if 50 < ks.length then none else
    match hands ks s sh as with
    | none => none
    | some as' => match blocksOf s ks with
      | none => none
      | some bs => (CF g as' bs).bind fun o => if 13 < o.x.length then none else match back ks o.x.length s d o.r with
        | some r => match backX ks o.x.length s d o.x with
          | some xs => some (r, putBlocks s ks o.b ++ newBlocks s d 0 xs)
          | none => none
        | none => none

/-! ### Operations -/
def binInt (op : BinOp) (k : IntKind) (x y : Int) : Option AV :=
  match op with
  | .add => some (.p (.int k (k.wrap (x + y))))
  | .sub => some (.p (.int k (k.wrap (x - y))))
  | .mul => some (.p (.int k (k.wrap (x * y))))
  | .quo => if y = 0 then none else some (.p (.int k (k.wrap (x.tdiv y))))
  | .rem => if y = 0 then none else some (.p (.int k (x.tmod y)))
  | .and => some (.p (.int k (k.wrap (BitVec.ofInt k.bits x &&& BitVec.ofInt k.bits y).toNat)))
  | .or => some (.p (.int k (k.wrap (BitVec.ofInt k.bits x ||| BitVec.ofInt k.bits y).toNat)))
  | .xor => some (.p (.int k (k.wrap (BitVec.ofInt k.bits x ^^^ BitVec.ofInt k.bits y).toNat)))
  | .eql => some (.p (.bool (decide (x = y))))
  | .neq => some (.p (.bool (!decide (x = y))))
  | .lss => some (.p (.bool (decide (x < y))))
  | .leq => some (.p (.bool (decide (x ≤ y))))
  | .gtr => some (.p (.bool (decide (x > y))))
  | .geq => some (.p (.bool (decide (x ≥ y))))
  | _ => none

def binStr (op : BinOp) (a b : ByteArray) : Option AV :=
  match op with
  | .add => if a.size + b.size ≤ 9223372036854775807 then some (.p (.str (a ++ b))) else none
  | .eql => some (.p (.bool (decide (a = b))))
  | .neq => some (.p (.bool (!decide (a = b))))
  | _ => none

def eqCell : Nat → PV → PV → Option Bool
  | 0, .int k x, .int k' y => if k = k' then some (decide (x = y)) else none
  | 1, .str a, .str b => some (decide (a = b))
  | 2, .bool a, .bool b => some (a == b)
  | _, _, _ => none

def eqCells : List Nat → List PV → List PV → Option Bool
  | [], [], [] => some true
  | k :: ks, x :: xs, y :: ys => match eqCell k x y with
    | some true => eqCells ks xs ys
    | some false => some false
    | none => none
  | _, _, _ => none

def eqB : AV → AV → Option Bool
  | .p (.bool a), .p (.bool b) => some (a == b)
  | _, _ => none
def eqPtr : AV → Option Bool
  | .p .nilp => some true
  | .mp .. => some false
  | .p (.fp ..) => some false
  | _ => none
def eqSl : AV → Option Bool
  | .p .nls => some true
  | .p (.ls _ (_ :: _)) => some false
  | _ => none
def eqFn : AV → Option Bool
  | .p .nilf => some true
  | .p (.fn ..) => some false
  | .cl .. => some false
  | _ => none
def eqSt (ks : List Nat) : AV → AV → Option Bool
  | .p (.agg xs), .p (.agg ys) => eqCells ks xs ys
  | _, _ => none
def isNil : AV → Nat
  | .p .nilp => 2
  | .p .nls => 3
  | .p .nilf => 4
  | _ => 0

def eqAV (q : Nat × List Nat) (x y : AV) : Option Bool :=
  match q.1 with
  | 1 => eqB x y
  | 2 => if isNil y = 2 then eqPtr x else none
  | 3 => if isNil y = 3 then eqSl x else none
  | 4 => if isNil y = 4 then eqFn x else none
  | 5 => eqSt q.2 x y
  | _ => none

def binAV (op : BinOp) (q : Nat × List Nat) (x y : AV) : Option AV :=
  match x, y with
  | .p (.int k a), .p (.int k' b) => match op with
    | .shl => if b < 0 then none else some (.p (.int k (k.wrap (a * 2 ^ (min b.toNat k.bits)))))
    | .shr => if b < 0 then none else some (.p (.int k (a.fdiv (2 ^ (min b.toNat k.bits)))))
    | op => if k = k' then binInt op k a b else none
  | .p (.str a), .p (.str b) => binStr op a b
  | x, y => match op with
    | .eql => match eqAV q x y with | some r => some (.p (.bool r)) | none => none
    | .neq => match eqAV q x y with | some r => some (.p (.bool !r)) | none => none
    | _ => none

def unAV (op : UnOp) (x : AV) : Option AV :=
  match op, x with
  | .neg, .p (.int k n) => some (.p (.int k (k.wrap (0 - n))))
  | .not, .p (.bool b) => some (.p (.bool !b))
  | _, _ => none

def fillCells : List AV → List (Nat × Nat × AV) → Option (List AV)
  | cs, [] => some cs
  | cs, (o, n, x) :: r => if x.cells.length = n ∧ o + n ≤ cs.length ∧ vok x then fillCells (cs.take o ++ x.cells ++ cs.drop (o + n)) r else none

def setEl (el : AV) (o : Nat) (vs : List AV) : Option AV :=
  match el with
  | .p (.agg cs) => if o + vs.length ≤ cs.length then some (ofCells true ((cs.map .p).take o ++ vs ++ (cs.map .p).drop (o + vs.length))) else none
  | .ag cs => if o + vs.length ≤ cs.length then some (ofCells true (cs.take o ++ vs ++ cs.drop (o + vs.length))) else none
  | _ => match o, vs with | 0, [x] => if vok x then some x else none | _, _ => none

def bytesOf : List PV → Option ByteArray
  | [] => some .empty
  | .int .u8 n :: r => match bytesOf r with | some b => some (⟨#[UInt8.ofNat n.toNat]⟩ ++ b) | none => none
  | _ => none

def intOf? : AV → Option Int
  | .p (.int _ n) => some n
  | _ => none

/-- How many elements a slice may have here. -/
def room : Nat := 4294967296

/-- What is appended. -/
def tailOf (s : Nat → K) (z : Nat) : AV → Option (List AV)
  | .p (.ls z' xs) => if z' = z then some (xs.map .p) else none
  | .p .nls => some []
  | .e0 _ => some []
  | .ms k v o n z' => if z' = z then match lk s k v with | some els => some ((els.drop o).take n) | none => none else none
  | _ => none

def optInt (g : Opd → AV) (d : Int) : Option Opd → Option Int
  | none => some d
  | some x => intOf? (g x)

def slcAV (s : Nat → K) (z : Nat) (x : AV) (g : Opd → AV) (lo hi mx : Option Opd) : Option AV :=
  match x with
  | .p (.str b) => match optInt g 0 lo, optInt g b.size hi with
    | some l, some h => if z = 0 ∧ mx.isNone ∧ 0 ≤ l ∧ l ≤ h ∧ h ≤ b.size then some (.p (.str (b.extract l.toNat h.toNat))) else none
    | _, _ => none
  | .p (.ls z' xs) => match optInt g 0 lo, optInt g xs.length hi with
    | some l, some h => if z' = z ∧ z ≠ 0 ∧ 0 ≤ l ∧ l ≤ h ∧ h ≤ xs.length ∧ mx.isNone then some (.p (.ls z ((xs.take h.toNat).drop l.toNat))) else none
    | _, _ => none
  | .ms k v o n z' => match lk s k v with
    | some els => match optInt g 0 lo, optInt g n hi with
      | some l, some h => if z' = z ∧ z ≠ 0 ∧ 0 ≤ l ∧ l ≤ h ∧ o + h ≤ els.length then
          match mx with
          | none => some (.ms k v (o + l.toNat) (h.toNat - l.toNat) z)
          | some m => if intOf? (g m) = some (n : Int) ∧ h ≤ n ∧ hi.isSome then some .un else none
        else none
      | _, _ => none
    | none => none
  | _ => none

def sem (E : Env) (CF : CFT) (d : Nat) (op : AOp) (g : Opd → AV) (s : Nat → K) : Option (AV × List (Nat × K)) :=
  match op with
  | .mv x => some (g x, [])
  | .mvl x k j => match (s k).2 with
    | some [.ms j' v o n z] => if j' = j ∧ j ≠ k then match freezeC s (.ms j' v o n z) with
        | some p => some (g x, [(j, ((s j).1 + 1, none)), (k, ((s k).1, some [.p p]))])
        | none => none
      else none
    | _ => none
  | .pick c a b => match g c with
    | .p (.bool true) => some (g a, [])
    | .p (.bool false) => some (g b, [])
    | _ => none
  | .alloc z => some (.mp d ((s d).1 + 1) 0 0, [(d, ((s d).1 + 1, some [.p z]))])
  | .box x => if vok (g x) then some (.mp d ((s d).1 + 1) 0 0, [(d, ((s d).1 + 1, some [g x]))]) else none
  | .build z ps => match fillCells (z.map .p) (ps.map fun q => (q.1, q.2.1, g q.2.2)) with
    | some cs => some (ofCells true cs, [])
    | none => none
  | .mkls z xs mu => if mu then if (xs.map g).all (fun x => vok x && x.cells.length == z) then some (.ms d ((s d).1 + 1) 0 xs.length z, [(d, ((s d).1 + 1, some (xs.map g)))]) else none
    else match xs with
      | [] => some (.e0 z, [])
      | xs => match freezes s [] (xs.map g) with
        | some ps => if ps.all (fun p => p.cells.length == z && vok (.p p)) then some (.p (.ls z ps), kill s ((xs.map g).flatMap keysV)) else none
        | none => none
  | .load agg n x => match g x with
    | .mp k v i o => match lk s k v with
      | some els => match els[i]? with
        | some el => if o + n ≤ el.cells.length ∧ (agg || n == 1) = true then some (ofCells agg ((el.cells.drop o).take n), []) else none
        | none => none
      | none => none
    | .p (.fp cs o) => match pcells agg ((cs.drop o).take n) with
      | some r => if o + n ≤ cs.length then some (r, []) else none
      | none => none
    | _ => none
  | .store n x v => match g x with
    | .mp k ver i o => match lk s k ver with
      | some els => match els[i]? with
        | some el => if (g v).cells.length = n ∧ vok (g v) then match setEl el o (g v).cells with
            | some el' => some (.un, [(k, ((s k).1, some (els.set i el')))])
            | none => none
          else none
        | none => none
      | none => none
    | _ => none
  | .nilck x => match g x with
    | .mp k v i o => some (.mp k v i o, [])
    | .p (.fp cs o) => some (.p (.fp cs o), [])
    | _ => none
  | .bin op q x y => match binAV op q (g x) (g y) with | some r => some (r, []) | none => none
  | .un op x => match unAV op (g x) with | some r => some (r, []) | none => none
  | .conv k x => match g x with | .p (.int _ n) => some (.p (.int k (k.wrap n)), []) | _ => none
  | .bts x => match g x with
    | .p (.ls _ xs) => match bytesOf xs with | some b => some (.p (.str b), []) | none => none
    | _ => none
  | .mkfn f a c => match plainAll (a.map g), plainAll (c.map g) with
    | some a', some c' => some (.p (.fn f a' c'), [])
    | _, _ => if (a.map g).all cellish && (c.map g).all cellish then some (.cl f (a.map g) (c.map g), []) else none
  | .mksl z el l c => match g l, g c with
    | .p (.int _ n), .p (.int _ m) => if 0 ≤ n ∧ m = n ∧ n ≤ room then
        some (.ms d ((s d).1 + 1) 0 n.toNat z, [(d, ((s d).1 + 1, some (List.replicate n.toNat (.p el))))])
      else none
    | _, _ => none
  | .slc z x lo hi mx => match slcAV s z (g x) g lo hi mx with | some r => some (r, []) | none => none
  | .fad o x => match g x with
    | .mp k v i o' => some (.mp k v i (o' + o), [])
    | .p (.fp cs o') => some (.p (.fp cs (o' + o)), [])
    | _ => none
  | .fld agg o n x => match g x with
    | .p (.agg cs) => match pcells agg ((cs.drop o).take n) with | some r => if o + n ≤ cs.length then some (r, []) else none | none => none
    | .ag cs => if o + n ≤ cs.length ∧ (agg = true ∨ n = 1) then some (ofCells agg ((cs.drop o).take n), []) else none
    | _ => none
  | .iad z arr x i => match intOf? (g i) with
    | none => none
    | some n => if 0 ≤ n then match arr, g x with
        | none, .p (.ls z' xs) => match xs[n.toNat]? with
          | some y => if z' = z then some (.p (.fp y.cells 0), []) else none
          | none => none
        | none, .ms k v o m z' => if n < m ∧ z' = z ∧ (s k).1 = v then some (.mp k v (o + n.toNat) 0, []) else none
        | some len, .mp k v j o => if n < len then some (.mp k v j (o + n.toNat * z), []) else none
        | some len, .p (.fp cs o) => if n < len then some (.p (.fp cs (o + n.toNat * z)), []) else none
        | _, _ => none
      else none
  | .idx arr x i => match intOf? (g i) with
    | none => none
    | some n => if 0 ≤ n then match arr, g x with
        | none, .p (.str b) => match b.data[n.toNat]? with | some u => some (.p (.int .u8 u.toNat), []) | none => none
        | some (len, z, agg), .p (.agg cs) => if n < len ∧ n.toNat * z + z ≤ cs.length then match pcells agg ((cs.drop (n.toNat * z)).take z) with | some r => some (r, []) | none => none else none
        | some (len, z, agg), .ag cs => if n < len ∧ n.toNat * z + z ≤ cs.length ∧ (agg = true ∨ z = 1) then some (ofCells agg ((cs.drop (n.toNat * z)).take z), []) else none
        | _, _ => none
      else none
  | .ext x i => match g x with
    | .p (.tup vs) => match vs[i]? with | some y => some (.p y, []) | none => none
    | .tu vs => match vs[i]? with | some y => some (y, []) | none => none
    | _ => none
  | .call f args sh => match callee (g f) (args.map g) sh with
    | some (h, as, sh) => doCall E CF s d h as sh
    | none => none
  | .len true x => match g x with
    | .p (.str b) => some (.p (.int .i64 b.size), [])
    | _ => none
  | .len false x => match g x with
    | .p (.ls _ xs) => some (.p (.int .i64 xs.length), [])
    | .p .nls => some (.p (.int .i64 0), [])
    | .e0 _ => some (.p (.int .i64 0), [])
    | .ms _ _ _ n _ => some (.p (.int .i64 n), [])
    | _ => none
  | .maxmin mx x y => match g x, g y with
    | .p (.int k a), .p (.int _ b) => some (.p (.int k (if mx then (if b > a then b else a) else (if b < a then b else a))), [])
    | _, _ => none
  | .app z x y => match tailOf s z (g y) with
    | none => none
    | some ys => match g x with
      | .e0 _ => if ys.length ≤ room then some (.ms d ((s d).1 + 1) 0 ys.length z, [(d, ((s d).1 + 1, some ys))]) else none
      | .p .nls => if ys.length ≤ room then some (.ms d ((s d).1 + 1) 0 ys.length z, [(d, ((s d).1 + 1, some ys))]) else none
      | .ms k v o n z' => match lk s k v with
        | some els => if z' = z then
            if o + n + ys.length ≤ els.length then some (.ms k v o (n + ys.length) z, [(k, ((s k).1, some (els.take (o + n) ++ ys ++ els.drop (o + n + ys.length))))])
            else if o = 0 ∧ n = els.length ∧ n + ys.length ≤ room then some (.ms k ((s k).1 + 1) o (n + ys.length) z, [(k, ((s k).1 + 1, some (els ++ ys)))])
            else none
          else none
        | none => none
      | _ => none
  | .clear el x => match g x with
    | .ms k v o n z => match lk s k v with
      | some els => if o + n ≤ els.length ∧ z = (AV.p el).cells.length then some (.un, [(k, ((s k).1, some (els.take o ++ List.replicate n (.p el) ++ els.drop (o + n))))]) else none
      | none => none
    | .e0 _ => some (.un, [])
    | _ => none
  | .no => none

/-- The boxes that an operation may look at. -/
def foot (d : Nat) (op : AOp) (g : Opd → AV) (s : Nat → K) : List Nat :=
  match op with
  | .alloc _ | .box _ | .mksl .. => [d]
  | .mvl _ k j => [k, j]
  | .mkls _ xs _ => d :: (xs.map g).flatMap keysV
  | .load _ _ x | .store _ x _ | .slc _ x _ _ _ | .clear _ x | .iad _ _ x _ | .bts x => keysV (g x)
  | .app _ x y => d :: (keysV (g x) ++ keysV (g y))
  | .call f args sh => (match callee (g f) (args.map g) sh with | some (_, as, _) => as.flatMap (keysD s) | none => []) ++ (List.range 13).map (xkey d)
  | _ => []

def updAll (s : Nat → K) : List (Nat × K) → Nat → K
  | [] => s
  | (k, x) :: r => updAll (upd s k x) r

def restr (ks : List Nat) (s : Nat → K) : Nat → K := fun k => if k ∈ ks then s k else (0, none)

def wanted (o : AOper) (t : Nat → AV) : Option Bool :=
  match o.guard with
  | none => some true
  | some (j, w) => match t j with
    | .p (.bool b) => some (b == w)
    | .p (.tup _) => some false
    | _ => none

/-- One operation: the frame behind it, what it looked at, what it turned. -/
def stp (E : Env) (CF : CFT) (o : AOper) (fr : Fr) : Option (Fr × List Nat × List Nat) :=
  match wanted o fr.t with
  | some true => match sem E CF (o.dst.getD 999) o.op (gv fr.t) fr.s with
    | some (x, us) => some ({ t := (fr.put o.dst x).t, s := updAll fr.s us }, foot (o.dst.getD 999) o.op (gv fr.t) fr.s, us.map (·.1))
    | none => none
  | some false => some (fr.put o.dst (.p (.tup [])), [], [])
  | none => none

def compat (a b : List Nat × List Nat) : Bool :=
  a.2.all (fun k => !b.1.contains k && !b.2.contains k) && b.2.all (fun k => !a.1.contains k)

/-- The operations one after the other. -/
def steps (E : Env) (CF : CFT) : List AOper → Fr → List (List Nat × List Nat) → Option (Fr × List (List Nat × List Nat))
  | [], fr, acc => some (fr, acc)
  | o :: r, fr, acc => match stp E CF o fr with
    | some (fr', f, w) => steps E CF r fr' ((f, w) :: acc)
    | none => none

/-- Any two that the text leaves open touch different boxes. -/
def pairsOk (bef : List Nat) : Nat → List (List Nat × List Nat) → Bool
  | _, [] => true
  | j, a :: r => (r.zipIdx.all fun (b, i) => ((bef.getD j 0).testBit (j - 1 - i)) || compat b a) && pairsOk bef (j - 1) r

/-! ### Loops: what lives on -/
def mkT (l : List (Nat × AV)) : Nat → AV := fun i => match l.lookup i with | some x => x | none => .un
def mkS (l : List (Nat × List AV)) : Nat → K := fun k => match l.lookup k with | some c => (0, some c) | none => (0, none)

/-- A new name for a box that a value leads to: slices get the name that is told, the rest keep theirs. No name is given twice. -/
def name1 (acc : List (Nat × Nat)) (k new : Nat) : List (Nat × Nat) :=
  if acc.all (fun q => q.1 != k && q.2 != new) && (decide (new < 900) || decide (950 ≤ new)) then acc ++ [(k, new)] else acc

def nameC (s : Nat → K) (new : Nat) (acc : List (Nat × Nat)) : AV → List (Nat × Nat)
  | .ms k v _ _ _ => if (s k).1 = v then name1 acc k new else acc
  | .mp k v _ _ => if (s k).1 = v then name1 acc k k else acc
  | _ => acc

def renC (s : Nat → K) (ns : List (Nat × Nat)) : AV → AV
  | .ms k v o n z => if (s k).1 = v then match ns.lookup k with | some k' => .ms k' 0 o n z | none => .un else .un
  | .mp k v i o => if (s k).1 = v then match ns.lookup k with | some k' => .mp k' 0 i o | none => .un else .un
  | .p x => .p x
  | .e0 z => .e0 z
  | _ => .un

def renV (s : Nat → K) (ns : List (Nat × Nat)) : AV → AV
  | .p x => .p x
  | .ag cs => .ag (cs.map (renC s ns))
  | .tu _ => .un
  | .cl f a c => .cl f (a.map (renC s ns)) (c.map (renC s ns))
  | x => renC s ns x

/-- All the handles of a value are good and have a name. -/
def okRenC (s : Nat → K) (ns : List (Nat × Nat)) : AV → Bool
  | .p _ => true
  | .e0 _ => true
  | .ms k v _ _ _ => (s k).1 == v && (ns.lookup k).isSome
  | .mp k v _ _ => (s k).1 == v && (ns.lookup k).isSome
  | _ => false

def okRen (s : Nat → K) (ns : List (Nat × Nat)) : AV → Bool
  | .ag cs => cs.all (okRenC s ns)
  | x => okRenC s ns x

/-- A box's content under the new names. -/
def renBox (s : Nat → K) (ns : List (Nat × Nat)) (els : List AV) : Option (List AV) :=
  match plainAll els with
  | some ps => some (ps.map .p)
  | none => if els.all (okRen s ns) then some (els.map (renV s ns)) else none

end Go.Proofs.YtjlebmnlphjjoaaGreatDoor.Abs
namespace Go.Proofs.YtjlebmnlphjjoaaGreatDoor.Abs

/-! ### Loops: what lives on -/
def nameV (s : Nat → K) (i : Nat) (acc : List (Nat × Nat)) : AV → List (Nat × Nat)
  | .p _ => acc
  | .ag cs => (cs.zipIdx).foldl (fun acc (x, j) => nameC s (400000 + 1000 * j + i) acc x) acc
  | .cl _ a c => (a ++ c).foldl (fun acc x => nameC s (3000 + i) acc x) acc
  | .tu _ => acc
  | x => nameC s (3000 + i) acc x

def cellsOf (els : List AV) : List AV := els.flatMap AV.cells

def nameB (s : Nat → K) (acc : List (Nat × Nat)) : List (Nat × Nat) → List (Nat × Nat)
  | [] => acc
  | (k, k') :: r => match (s k).2 with
    | some els => match plainAll els with
      | some _ => nameB s acc r
      | none => nameB s ((cellsOf els).zipIdx.foldl (fun acc (x, j) => nameC s (5000000 * (j + 1) + k') acc x) acc) r
    | none => nameB s acc r

/-- The boxes that were handed over, as far as they lie where they lay. -/
def homes (s : Nat → K) : List (Nat × Nat) := [900, 901, 902, 903].filterMap fun k => if (s k).1 = 0 ∧ (s k).2.isSome = true then some (k, k) else none

/-- The frame with the slots li alone, its boxes under new names; a fresh empty slice becomes one over an empty box. -/
def clean (li : List Nat) (fr : Fr) : Fr :=
  let n1 := li.foldl (fun acc i => nameV fr.s i acc (fr.t i)) (homes fr.s)
  let n2 := nameB fr.s n1 n1
  let ns := nameB fr.s n2 (n2.drop n1.length)
  { t := mkT (li.map fun i => (i, match fr.t i with
      | .e0 z => if ns.all (fun q => q.2 != 3000 + i) then .ms (3000 + i) 0 0 0 z else .e0 z
      | x => renV fr.s ns x))
    s := mkS ((ns.filterMap fun (k, k') => match (fr.s k).2 with | some els => (match renBox fr.s ns els with | some els' => some (k', els') | none => none) | none => none) ++
      li.filterMap fun i => match fr.t i with | .e0 _ => if ns.all (fun q => q.2 != 3000 + i) then some (3000 + i, []) else none | _ => none) }

abbrev CLT := List Nat → List Nat → AC → Fr → Option (AX × Fr)

def run (E : Env) (CF : CFT) : List AOper → Fr → Option Fr
  | [], fr => some fr
  | o :: r, fr => match wanted o fr.t with
    | some true => match sem E CF (o.dst.getD 999) o.op (gv fr.t) fr.s with
      | some (x, us) => run E CF r { t := (fr.put o.dst x).t, s := updAll fr.s us }
      | none => none
    | some false => run E CF r (fr.put o.dst (.p (.tup [])))
    | none => none

def exec (E : Env) (CF : CFT) (CL : CLT) : AC → Fr → Option (AX × Fr)
  | .skip, fr => some (.norm, fr)
  | .region dr ops bef, fr => match dr with
    | false => match run E CF ops fr with | some fr' => some (.norm, fr') | none => none
    | true => match steps E CF ops fr [] with
      | some (fr', recs) => if pairsOk bef (ops.length - 1) recs then some (.norm, fr') else none
      | none => none
  | .seq a b, fr => match exec E CF CL a fr with
    | some (.norm, fr') => exec E CF CL b fr'
    | r => r
  | .cond c x y, fr => match gv fr.t c with
    | .p (.bool true) => exec E CF CL x fr
    | .p (.bool false) => exec E CF CL y fr
    | _ => none
  | .block id b, fr => match exec E CF CL b fr with
    | some (.ex i, fr') => if i = id then some (.norm, fr') else some (.ex i, fr')
    | r => r
  | .loop li lo b, fr => CL li lo b (clean li fr)
  | .exit id, fr => some (.ex id, fr)
  | .ret, fr => some (.ret, fr)
  | .no, _ => none

/-! ### Functions -/
/-- A result: what leads to the function's own boxes is handed out (keep), or laid down. -/
def finC (s : Nat → K) (acc : List Nat) : AV → Option (AV × List Nat)
  | .p x => some (.p x, acc)
  | .e0 z => some (.e0 z, acc)
  | .mp k v i o => if (s k).1 = v then
      if 900 ≤ k ∧ k < 950 then some (.mp k 0 i o, acc) else match posOf k acc with
        | some j => some (.mp (950 + j) 0 i o, acc)
        | none => some (.mp (950 + acc.length) 0 i o, acc ++ [k])
    else none
  | .ms k v o n z => if (s k).1 = v then
      if 900 ≤ k ∧ k < 950 then some (.ms k 0 o n z, acc) else match posOf k acc with
        | some j => some (.ms (950 + j) 0 o n z, acc)
        | none => some (.ms (950 + acc.length) 0 o n z, acc ++ [k])
    else none
  | _ => none

def finCs (s : Nat → K) : List Nat → List AV → Option (List AV × List Nat)
  | acc, [] => some ([], acc)
  | acc, x :: r => match finC s acc x with
    | some (y, acc) => match finCs s acc r with
      | some (ys, acc) => some (y :: ys, acc)
      | none => none
    | none => none

def handed : AV → Bool
  | .mp k .. => 900 ≤ k && k < 950
  | .ms k .. => 900 ≤ k && k < 950
  | _ => false

def finV (s : Nat → K) (keep : Bool) (sh : Shape) (acc : List Nat) (x : AV) : Option (AV × List Nat) :=
  match keep || handed x with
  | true => match x with
    | .ag cs => match finCs s acc cs with | some (ys, acc) => some (.ag ys, acc) | none => none
    | x => finC s acc x
  | false => if (keysV x).all (fun k => !(900 ≤ k && k < 950)) then match frz s sh x with
      | some y => some (.p y, acc)
      | none => if (keysD s x).all (fun k => !(900 ≤ k && k < 950)) then match frzD s sh x with | some y => some (.p y, acc) | none => none else none
    else none

def finVs (s : Nat → K) (keep : Bool) : List Nat → List Shape → List AV → Option (List AV × List Nat)
  | acc, _, [] => some ([], acc)
  | acc, sh, x :: r => match finV s keep (sh.headD []) acc x with
    | some (y, acc) => match finVs s keep acc sh.tail r with
      | some (ys, acc) => some (y :: ys, acc)
      | none => none
    | none => none

def resOf (fr : Fr) : (Nat ⊕ (Nat × Bool × Nat)) → Option AV
  | .inl t => some (fr.t t)
  | .inr (t, agg, n) => match fr.t t with
    | .mp k v i o => match lk fr.s k v with
      | some els => match els[i]? with
        | some el => if o + n ≤ el.cells.length ∧ (agg || n == 1) = true then some (ofCells agg ((el.cells.drop o).take n)) else none
        | none => none
      | none => none
    | _ => none

def resAll (fr : Fr) : List (Nat ⊕ (Nat × Bool × Nat)) → Option (List AV)
  | [] => some []
  | x :: r => match resOf fr x with
    | some y => match resAll fr r with
      | some ys => some (y :: ys)
      | none => none
    | none => none

/-- The handed boxes as they are: none has been outgrown. -/
def handedBack (s : Nat → K) : Nat → Nat → Option (List (List PV))
  | _, 0 => some []
  | j, n + 1 => match lk s (900 + j) 0 with
    | some els => match plainAll els with
      | some ps => match handedBack s (j + 1) n with
        | some bs => some (ps :: bs)
        | none => none
      | none => none
    | none => none

/-- What the boxes hold that are handed out; what that leads to is handed out behind them. -/
def finX (s : Nat → K) : Nat → Nat → List Nat → Option (List (List AV) × List Nat)
  | 0, i, acc => if i < acc.length then none else some ([], acc)
  | n + 1, i, acc => match acc[i]? with
    | none => some ([], acc)
    | some k => match (s k).2 with
      | none => none
      | some els => match (match plainAll els with | some ps => some (ps.map .p, acc) | none => finVs s true acc [] els) with
        | none => none
        | some (els', acc') => match finX s n (i + 1) acc' with
          | some (xs, acc'') => some (els' :: xs, acc'')
          | none => none

def finish (f : AF) (nb : Nat) (fr : Fr) : Option Out :=
  match resAll fr f.res with
  | none => none
  | some vs =>
    let r : Option (AV × List Nat) := match vs with
      | [x] => finV fr.s f.keep (if f.exp then [] else f.sh.headD []) [] x
      | vs => match finVs fr.s f.keep [] f.sh vs with
        | some (ys, acc) => match plainAll ys with
          | some ps => some (.p (.tup ps), acc)
          | none => some (.tu ys, acc)
        | none => none
    match r with
    | none => none
    | some (x, acc) => match finX fr.s 13 0 acc with
      | some (xs, acc') => if (dedup acc').length = acc'.length then
          match handedBack fr.s 0 nb with
          | some bs => some { r := x, b := bs, x := xs }
          | none => none
        else none
      | none => none

def enter (as : List AV) (bs : List (List PV)) : Fr :=
  { t := mkT (as.zipIdx.map fun (x, i) => (i, x))
    s := mkS (bs.zipIdx.map fun (b, j) => (900 + j, b.map .p)) }

def body (E : Env) (CF : CFT) (CL : CLT) (f : FuncId) (as : List AV) (bs : List (List PV)) : Option Out :=
  match E.fn f with
  | none => E.ext f as bs
  | some af => if as.length = af.np then
      match exec E CF CL af.code (enter as bs) with
      | some (.norm, fr) => finish af bs.length fr
      | some (.ret, fr) => finish af bs.length fr
      | _ => none
    else none

def loop (E : Env) (CF : CFT) (CL : CLT) (li lo : List Nat) (b : AC) (fr : Fr) : Option (AX × Fr) :=
  match exec E CF CL b fr with
  | some (.norm, fr') => CL li lo b (clean li fr')
  | some (e, fr') => some (e, clean lo fr')
  | none => none

mutual
def runF (E : Env) : Nat → CFT
  | 0 => fun _ _ _ => none
  | n + 1 => fun f as bs => body E (runF E n) (runL E n) f as bs
def runL (E : Env) : Nat → CLT
  | 0 => fun _ _ _ _ => none
  | n + 1 => fun li lo b fr => loop E (runF E n) (runL E n) li lo b fr
end

open Classical in
noncomputable def CF (E : Env) : CFT := fun f as bs => if h : ∃ n r, runF E n f as bs = some r then some h.choose_spec.choose else none
open Classical in
noncomputable def CL (E : Env) : CLT := fun li lo b fr => if h : ∃ n r, runL E n li lo b fr = some r then some h.choose_spec.choose else none

end Go.Proofs.YtjlebmnlphjjoaaGreatDoor.Abs
namespace Go.Proofs.YtjlebmnlphjjoaaGreatDoor.Abs
open Go.RowKit (Below)

abbrev Fz := Nat → Nat → Option Value

/-! ### What a value stands for -/
mutual
inductive RepP (fz : Fz) : Value → PV → Prop
  | int (k : IntKind) (n : Int) : RepP fz (.int k n) (.int k n)
  | bool (b : Bool) : RepP fz (.bool b) (.bool b)
  | str (s : ByteArray) : RepP fz (.string s) (.str s)
  | nilp : RepP fz (.pointer none) .nilp
  | nls : RepP fz (.slice none 0 0) .nls
  | nilf : RepP fz .nilFunc .nilf
  | lsn (s : Nat) : RepP fz (.slice none 0 0) (.ls s [])
  | ls (b o cap s : Nat) (xs : List PV) : RepEls fz b o s xs → xs.length ≤ cap → RepP fz (.slice (some ⟨b, o, none⟩) xs.length cap) (.ls s xs)
  | agg (vs : List Value) (xs : List PV) : RepVs fz vs xs → RepP fz (.agg vs.toArray) (.agg xs)
  | tup (vs : List Value) (xs : List PV) : RepTs fz vs xs → RepP fz (.tuple vs.toArray) (.tup xs)
  | fp (b o off : Nat) (cs : List PV) : RepCells fz b o cs → RepP fz (.pointer (some ⟨b, o + off, none⟩)) (.fp cs off)
  | fn (f : FuncId) (a c : List Value) (fst cap : List PV) : RepTs fz a fst → RepTs fz c cap → RepP fz (.func (.func (f % 10000)) a.toArray c.toArray) (.fn f fst cap)
/-- Cells, each of one cell. -/
inductive RepVs (fz : Fz) : List Value → List PV → Prop
  | nil : RepVs fz [] []
  | cons (v : Value) (x : PV) (vs : List Value) (xs : List PV) : RepP fz v x → v.oneCell' = true → RepVs fz vs xs → RepVs fz (v :: vs) (x :: xs)
/-- Values of any kind. -/
inductive RepTs (fz : Fz) : List Value → List PV → Prop
  | nil : RepTs fz [] []
  | cons (v : Value) (x : PV) (vs : List Value) (xs : List PV) : RepP fz v x → RepTs fz vs xs → RepTs fz (v :: vs) (x :: xs)
/-- Cells laid down in memory. -/
inductive RepCells (fz : Fz) : Nat → Nat → List PV → Prop
  | nil (b o : Nat) : RepCells fz b o []
  | cons (b o : Nat) (v : Value) (x : PV) (xs : List PV) : fz b o = some v → RepP fz v x → v.oneCell' = true → RepCells fz b (o + 1) xs → RepCells fz b o (x :: xs)
inductive RepEls (fz : Fz) : Nat → Nat → Nat → List PV → Prop
  | nil (b o s : Nat) : RepEls fz b o s []
  | cons (b o s : Nat) (x : PV) (xs : List PV) : RepCells fz b o x.cells → x.cells.length = s → RepEls fz b (o + s) s xs → RepEls fz b o s (x :: xs)
end

def Fz.le (f g : Fz) : Prop := ∀ b o v, f b o = some v → g b o = some v

theorem Fz.le_refl (f : Fz) : Fz.le f f := fun _ _ _ h => h
theorem Fz.le_trans {f g h : Fz} (a : Fz.le f g) (b : Fz.le g h) : Fz.le f h := fun _ _ _ k => b _ _ _ (a _ _ _ k)

mutual
theorem RepP.mono {f g : Fz} (le : Fz.le f g) {v : Value} {x : PV} : RepP f v x → RepP g v x
  | .int k n => .int k n
  | .bool b => .bool b
  | .str s => .str s
  | .nilp => .nilp
  | .nls => .nls
  | .nilf => .nilf
  | .lsn s => .lsn s
  | .ls b o cap s xs h hc => .ls b o cap s xs (RepEls.mono le h) hc
  | .agg vs xs h => .agg vs xs (RepVs.mono le h)
  | .tup vs xs h => .tup vs xs (RepTs.mono le h)
  | .fp b o off cs h => .fp b o off cs (RepCells.mono le h)
  | .fn f a c x y h k => .fn f a c x y (RepTs.mono le h) (RepTs.mono le k)
theorem RepVs.mono {f g : Fz} (le : Fz.le f g) {v : List Value} {x : List PV} : RepVs f v x → RepVs g v x
  | .nil => .nil
  | .cons v x vs xs h o r => .cons v x vs xs (RepP.mono le h) o (RepVs.mono le r)
theorem RepTs.mono {f g : Fz} (le : Fz.le f g) {v : List Value} {x : List PV} : RepTs f v x → RepTs g v x
  | .nil => .nil
  | .cons v x vs xs h r => .cons v x vs xs (RepP.mono le h) (RepTs.mono le r)
theorem RepCells.mono {f g : Fz} (le : Fz.le f g) {b o : Nat} {x : List PV} : RepCells f b o x → RepCells g b o x
  | .nil b o => .nil b o
  | .cons b o v x xs e h c r => .cons b o v x xs (le _ _ _ e) (RepP.mono le h) c (RepCells.mono le r)
theorem RepEls.mono {f g : Fz} (le : Fz.le f g) {b o s : Nat} {x : List PV} : RepEls f b o s x → RepEls g b o s x
  | .nil b o s => .nil b o s
  | .cons b o s x xs h l r => .cons b o s x xs (RepCells.mono le h) l (RepEls.mono le r)
end

/-! ### Boxes -/
/-- Where a box lies: its block, from which cell, how many cells an element has, how many cells the block has. -/
structure Pl where
  b : Nat
  base : Nat
  z : Nat
  c : Nat

structure G where
  fz : Fz
  bk : Nat → Option Pl

def SpotOk (b : Option Addr) : Prop := ∀ a, b = some a → a.spot = none

/-- A slice over a box. -/
def RepMs (g : G) (s : Nat → K) (v : Value) (k o n z : Nat) : Prop :=
  (∃ b, v = .slice b 0 0 ∧ SpotOk b ∧ n = 0 ∧ ∀ els, (s k).2 = some els → els.length ≤ o) ∨
  (∃ p cap, g.bk k = some p ∧ p.z = z ∧ v = .slice (some ⟨p.b, p.base + o * z, none⟩) n cap ∧ n ≤ cap ∧ p.base + (o + cap) * z ≤ p.c ∧
    ∀ els, (s k).2 = some els → o + n ≤ els.length ∧ els.length ≤ o + cap)

/-- One cell's value. -/
def RepC (g : G) (s : Nat → K) (v : Value) (x : AV) : Prop :=
  match x with
  | .p x => RepP g.fz v x
  | .e0 _ => ∃ b, v = .slice b 0 0 ∧ SpotOk b
  | .mp k ver i o => (∃ a, v = .pointer (some a)) ∧ ver ≤ (s k).1 ∧ ((s k).1 = ver → ∃ p, g.bk k = some p ∧ v = .pointer (some ⟨p.b, p.base + i * p.z + o, none⟩))
  | .ms k ver o n z => (∃ b c, v = .slice b n c) ∧ ver ≤ (s k).1 ∧ ((s k).1 = ver → RepMs g s v k o n z)
  | .un => True
  | _ => False

def RepCs (g : G) (s : Nat → K) : List Value → List AV → Prop
  | [], [] => True
  | v :: vs, x :: xs => RepC g s v x ∧ v.oneCell' = true ∧ RepCs g s vs xs
  | _, _ => False

def RepTC (g : G) (s : Nat → K) : List Value → List AV → Prop
  | [], [] => True
  | v :: vs, x :: xs => RepC g s v x ∧ RepTC g s vs xs
  | _, _ => False

/-- A slot's value, but for tuples. -/
def RepV (g : G) (s : Nat → K) (v : Value) (x : AV) : Prop :=
  match x with
  | .ag cs => ∃ vs : List Value, v = .agg vs.toArray ∧ RepCs g s vs cs
  | .cl f a c => ∃ va vc : List Value, v = .func (.func (f % 10000)) va.toArray vc.toArray ∧ RepTC g s va a ∧ RepTC g s vc c
  | .tu _ => False
  | x => RepC g s v x

def RepTV (g : G) (s : Nat → K) : List Value → List AV → Prop
  | [], [] => True
  | v :: vs, x :: xs => RepV g s v x ∧ RepTV g s vs xs
  | _, _ => False

def RepA (g : G) (s : Nat → K) (v : Value) (x : AV) : Prop :=
  match x with
  | .tu xs => ∃ vs : List Value, v = .tuple vs.toArray ∧ RepTV g s vs xs
  | x => RepV g s v x

/-- A state that follows upon another: what is laid down stays, versions grow, a box of the same version lies where it lay and has as many elements. -/
structure Ext (g : G) (s : Nat → K) (g' : G) (s' : Nat → K) : Prop where
  fz : Fz.le g.fz g'.fz
  ver : ∀ k, (s k).1 ≤ (s' k).1
  bk : ∀ k, (s' k).1 = (s k).1 → g'.bk k = g.bk k
  len : ∀ k els', (s' k).1 = (s k).1 → (s' k).2 = some els' → ∃ els, (s k).2 = some els ∧ els.length = els'.length

theorem Ext.refl (g : G) (s : Nat → K) : Ext g s g s := ⟨Fz.le_refl _, fun _ => Nat.le_refl _, fun _ _ => rfl, fun _ els _ h => ⟨els, h, rfl⟩⟩

theorem Ext.trans {g g' g'' : G} {s s' s'' : Nat → K} (a : Ext g s g' s') (b : Ext g' s' g'' s'') : Ext g s g'' s'' := by
  have key : ∀ k, (s'' k).1 = (s k).1 → (s'' k).1 = (s' k).1 ∧ (s' k).1 = (s k).1 := fun k h => by
    have h1 := a.ver k; have h2 := b.ver k; omega
  refine ⟨Fz.le_trans a.fz b.fz, fun k => Nat.le_trans (a.ver k) (b.ver k), fun k h => ?_, fun k els'' h he => ?_⟩
  · rw [b.bk k (key k h).1, a.bk k (key k h).2]
  · obtain ⟨els', h1, l1⟩ := b.len k els'' (key k h).1 he
    obtain ⟨els, h2, l2⟩ := a.len k els' (key k h).2 h1
    exact ⟨els, h2, l2.trans l1⟩

theorem RepMs.mono {g g' : G} {s s' : Nat → K} (e : Ext g s g' s') {v : Value} {k o n z : Nat} (hv : (s' k).1 = (s k).1) (h : RepMs g s v k o n z) : RepMs g' s' v k o n z := by
  rcases h with ⟨b, rfl, hb, hn, hl⟩ | ⟨p, cap, hp, hz, hv', hc, hC, hl⟩
  · refine .inl ⟨b, rfl, hb, hn, fun els' he => ?_⟩
    obtain ⟨els, h1, l1⟩ := e.len k els' hv he
    have := hl els h1; omega
  · refine .inr ⟨p, cap, (e.bk k hv).trans hp, hz, hv', hc, hC, fun els' he => ?_⟩
    obtain ⟨els, h1, l1⟩ := e.len k els' hv he
    have := hl els h1; omega

theorem RepC.mono {g g' : G} {s s' : Nat → K} (e : Ext g s g' s') {v : Value} {x : AV} (h : RepC g s v x) : RepC g' s' v x := by
  cases x with
  | p x => exact RepP.mono e.fz h
  | e0 z => exact h
  | mp k ver i o =>
    obtain ⟨h0, h1, h2⟩ := h
    have h3 := e.ver k
    refine ⟨h0, by omega, fun hv => ?_⟩
    have hk : (s k).1 = ver := by omega
    obtain ⟨p, hp, hv'⟩ := h2 hk
    exact ⟨p, (e.bk k (by omega)).trans hp, hv'⟩
  | ms k ver o n z =>
    obtain ⟨h0, h1, h2⟩ := h
    have h3 := e.ver k
    refine ⟨h0, by omega, fun hv => ?_⟩
    exact (h2 (by omega)).mono e (by omega)
  | un => trivial
  | ag cs => exact h.elim
  | tu vs => exact h.elim
  | cl f a c => exact h.elim

theorem RepCs.mono {g g' : G} {s s' : Nat → K} (e : Ext g s g' s') : ∀ {vs : List Value} {xs : List AV}, RepCs g s vs xs → RepCs g' s' vs xs
  | [], [], _ => trivial
  | _ :: _, _ :: _, ⟨h, o, r⟩ => ⟨h.mono e, o, RepCs.mono e r⟩
  | [], _ :: _, h => h.elim
  | _ :: _, [], h => h.elim

theorem RepTC.mono {g g' : G} {s s' : Nat → K} (e : Ext g s g' s') : ∀ {vs : List Value} {xs : List AV}, RepTC g s vs xs → RepTC g' s' vs xs
  | [], [], _ => trivial
  | _ :: _, _ :: _, ⟨h, r⟩ => ⟨h.mono e, RepTC.mono e r⟩
  | [], _ :: _, h => h.elim
  | _ :: _, [], h => h.elim

theorem RepV.mono {g g' : G} {s s' : Nat → K} (e : Ext g s g' s') {v : Value} {x : AV} (h : RepV g s v x) : RepV g' s' v x := by
  cases x with
  | ag cs => obtain ⟨vs, hv, hc⟩ := h; exact ⟨vs, hv, hc.mono e⟩
  | cl f a c => obtain ⟨va, vc, hv, ha, hc⟩ := h; exact ⟨va, vc, hv, ha.mono e, hc.mono e⟩
  | tu vs => exact h.elim
  | p x => exact RepC.mono (x := .p x) e h
  | e0 z => exact RepC.mono (x := .e0 z) e h
  | mp k v i o => exact RepC.mono (x := .mp k v i o) e h
  | ms k v o n z => exact RepC.mono (x := .ms k v o n z) e h
  | un => trivial

theorem RepTV.mono {g g' : G} {s s' : Nat → K} (e : Ext g s g' s') : ∀ {vs : List Value} {xs : List AV}, RepTV g s vs xs → RepTV g' s' vs xs
  | [], [], _ => trivial
  | _ :: _, _ :: _, ⟨h, r⟩ => ⟨h.mono e, RepTV.mono e r⟩
  | [], _ :: _, h => h.elim
  | _ :: _, [], h => h.elim

theorem RepA.mono {g g' : G} {s s' : Nat → K} (e : Ext g s g' s') {v : Value} {x : AV} (h : RepA g s v x) : RepA g' s' v x := by
  cases x with
  | tu xs => obtain ⟨vs, hv, hc⟩ := h; exact ⟨vs, hv, hc.mono e⟩
  | p x => exact RepV.mono (x := .p x) e h
  | e0 z => exact RepV.mono (x := .e0 z) e h
  | mp k v i o => exact RepV.mono (x := .mp k v i o) e h
  | ms k v o n z => exact RepV.mono (x := .ms k v o n z) e h
  | ag cs => exact RepV.mono (x := .ag cs) e h
  | cl f a c => exact RepV.mono (x := .cl f a c) e h
  | un => trivial

/-! ### The world -/
/-- A box's content lies in its block. -/
def BoxAt (g : G) (s : Nat → K) (w : World) (p : Pl) (els : List AV) : Prop :=
  ∃ (c : Array Value) (t : TypeId), w.heap[p.b]? = some (.cells c t (0, 0)) ∧ c.size = p.c ∧ p.base + els.length * p.z ≤ p.c ∧
    ∀ i el, els[i]? = some el → vok el = true ∧ el.cells.length = p.z ∧ ∀ j x, el.cells[j]? = some x → ∃ v, c[p.base + i * p.z + j]? = some v ∧ v.oneCell' = true ∧ RepC g s v x

/-- Nothing is put out; draws are only counted on. -/
abbrev Quiet (w w' : World) : Prop := w'.output = w.output ∧ w.drawn ≤ w'.drawn
theorem Quiet.trans {w0 w w' : World} (b : Quiet w w') (a : Quiet w0 w) : Quiet w0 w' := ⟨b.1.trans a.1, Nat.le_trans a.2 b.2⟩

/-- The world under a call that began in w0 and was handed the blocks S. -/
structure Inv (w0 : World) (S : Nat → Prop) (fz0 : Fz) (g : G) (s : Nat → K) (w : World) : Prop where
  os : w.os = w0.os
  tape : w.tape = w0.tape
  output : Quiet w0 w
  size : w0.heap.size ≤ w.heap.size
  old : ∀ b, b < w0.heap.size → ¬ S b → w.heap[b]? = w0.heap[b]?
  fzle : Fz.le fz0 g.fz
  fzok : ∀ b o v, g.fz b o = some v → w.cell? ⟨b, o, none⟩ = some v
  fznew : ∀ b o v, g.fz b o = some v → fz0 b o = some v ∨ w0.heap.size ≤ b ∨ S b
  box : ∀ k els, (s k).2 = some els → (els = [] ∧ g.bk k = none) ∨ ∃ p, g.bk k = some p ∧ BoxAt g s w p els
  own : ∀ k els p, (s k).2 = some els → g.bk k = some p → (w0.heap.size ≤ p.b ∨ S p.b) ∧ ∀ o, g.fz p.b o = none
  apart : ∀ k k' els els' p p', (s k).2 = some els → (s k').2 = some els' → g.bk k = some p → g.bk k' = some p' → k ≠ k' → p.b ≠ p'.b

theorem upd_same {α : Type} (f : Nat → α) (k : Nat) (x : α) : upd f k x k = x := by simp [upd]
theorem upd_ne {α : Type} (f : Nat → α) {k j : Nat} (x : α) (h : j ≠ k) : upd f k x j = f j := by simp [upd, h]

theorem cell_lt {w : World} {b o : Nat} {v : Value} (h : w.cell? ⟨b, o, none⟩ = some v) : b < w.heap.size := by
  unfold World.cell? at h
  cases hb : w.heap[b]? with
  | none => simp [hb] at h
  | some x => exact (Array.getElem?_eq_some_iff.1 hb).1

theorem cell_same {w w' : World} {b o : Nat} (h : w'.heap[b]? = w.heap[b]?) : w'.cell? ⟨b, o, none⟩ = w.cell? ⟨b, o, none⟩ := by simp [World.cell?, h]

theorem BoxAt.lt {g : G} {s : Nat → K} {w : World} {p : Pl} {els : List AV} (h : BoxAt g s w p els) : p.b < w.heap.size := by
  obtain ⟨c, t, h1, _⟩ := h
  exact (Array.getElem?_eq_some_iff.1 h1).1

theorem BoxAt.mono {g g' : G} {s s' : Nat → K} {w w' : World} {p : Pl} {els : List AV} (e : Ext g s g' s') (hb : w'.heap[p.b]? = w.heap[p.b]?) (h : BoxAt g s w p els) : BoxAt g' s' w' p els := by
  obtain ⟨c, t, h1, h2, h3, h4⟩ := h
  refine ⟨c, t, hb.trans h1, h2, h3, fun i el hi => ?_⟩
  obtain ⟨a, b, hc⟩ := h4 i el hi
  exact ⟨a, b, fun j x hx => let ⟨v, h5, h6, h7⟩ := hc j x hx; ⟨v, h5, h6, h7.mono e⟩⟩

section
variable {w0 : World} {S : Nat → Prop} {fz0 : Fz} {g : G} {s : Nat → K} {w w' : World}

/-- The world's outside, but for its heap. -/
structure Alike (w w' : World) : Prop where
  os : w'.os = w.os
  tape : w'.tape = w.tape
  output : Quiet w w'

theorem Alike.refl (w : World) : Alike w w := ⟨rfl, rfl, rfl, Nat.le_refl _⟩

/-- Nothing but the count of draws has turned. -/
theorem Inv.drew (h : Inv w0 S fz0 g s w) (ha : Alike w w') (hh : w'.heap = w.heap) : Inv w0 S fz0 g s w' := by
  refine ⟨ha.os.trans h.os, ha.tape.trans h.tape, ha.output.trans h.output, by rw [hh]; exact h.size, fun b hb hs => by rw [hh]; exact h.old b hb hs, h.fzle,
    fun b o v hv => ?_, h.fznew, fun k els hk => ?_, h.own, h.apart⟩
  · rw [cell_same (w := w) (w' := w') (by rw [hh])]; exact h.fzok b o v hv
  · rcases h.box k els hk with hx | ⟨p, hp, hx⟩
    · exact .inl hx
    · exact .inr ⟨p, hp, hx.mono (Ext.refl _ _) (by rw [hh])⟩

/-- A new block, and a box over it. -/
theorem Inv.alloc (h : Inv w0 S fz0 g s w) (ha : Alike w w') (d : Nat) (els : List AV) (cs : Array Value) (t : TypeId) (z : Nat)
    (hh : w'.heap = w.heap.push (.cells cs t (0, 0))) (hsz : els.length * z ≤ cs.size)
    (hels : ∀ i el, els[i]? = some el → vok el = true ∧ el.cells.length = z ∧ ∀ j x, el.cells[j]? = some x → ∃ v, cs[i * z + j]? = some v ∧ v.oneCell' = true ∧ RepC g s v x) :
    Inv w0 S fz0 { g with bk := upd g.bk d (some ⟨w.heap.size, 0, z, cs.size⟩) } (upd s d ((s d).1 + 1, some els)) w' ∧
    Ext g s { g with bk := upd g.bk d (some ⟨w.heap.size, 0, z, cs.size⟩) } (upd s d ((s d).1 + 1, some els)) := by
  have hold : ∀ b, b < w.heap.size → w'.heap[b]? = w.heap[b]? := fun b hb => by rw [hh, Array.getElem?_push, if_neg (by omega)]
  have hnew : w'.heap[w.heap.size]? = some (.cells cs t (0, 0)) := by rw [hh]; simp
  have e : Ext g s { g with bk := upd g.bk d (some ⟨w.heap.size, 0, z, cs.size⟩) } (upd s d ((s d).1 + 1, some els)) := by
    refine ⟨Fz.le_refl _, fun k => ?_, fun k hk => ?_, fun k els' hk he => ?_⟩
    · by_cases hd : k = d
      · subst hd; rw [upd_same]; simp
      · rw [upd_ne _ _ hd]; exact Nat.le_refl _
    · by_cases hd : k = d
      · subst hd; rw [upd_same] at hk; simp at hk
      · simp only [upd_ne _ _ hd]
    · by_cases hd : k = d
      · subst hd; rw [upd_same] at hk; simp at hk
      · rw [upd_ne _ _ hd] at he; exact ⟨els', he, rfl⟩
  refine ⟨⟨ha.os.trans h.os, ha.tape.trans h.tape, ha.output.trans h.output, by rw [hh]; simp; have := h.size; omega, fun b hb hs => ?_, h.fzle, fun b o v hv => ?_, h.fznew, fun k els' hk => ?_, fun k els' p hk hp => ?_, fun k k' els1 els2 p p' h1 h2 hp hp' hne => ?_⟩, e⟩
  · rw [hold b (Nat.lt_of_lt_of_le hb h.size)]; exact h.old b hb hs
  · have hc := h.fzok b o v hv
    rw [cell_same (hold b (cell_lt hc))]; exact hc
  · by_cases hd : k = d
    · subst hd
      rw [upd_same] at hk
      obtain rfl : els = els' := by simpa using hk
      refine .inr ⟨_, upd_same _ _ _, cs, t, hnew, rfl, by simpa using hsz, fun i el hi => ?_⟩
      obtain ⟨a, b, hc⟩ := hels i el hi
      exact ⟨a, b, fun j x hx => let ⟨v, h5, h6, h7⟩ := hc j x hx; ⟨v, by simpa using h5, h6, h7.mono e⟩⟩
    · rw [upd_ne _ _ hd] at hk
      rcases h.box k els' hk with ⟨hx, hy⟩ | ⟨p, hp, hx⟩
      · exact .inl ⟨hx, by simpa only [upd_ne _ _ hd] using hy⟩
      · exact .inr ⟨p, by simpa only [upd_ne _ _ hd] using hp, hx.mono e (hold _ hx.lt)⟩
  · by_cases hd : k = d
    · subst hd
      obtain rfl : (⟨w.heap.size, 0, z, cs.size⟩ : Pl) = p := by simpa [upd_same] using hp
      refine ⟨.inl h.size, fun o => ?_⟩
      cases hf : g.fz w.heap.size o with
      | none => rfl
      | some v => exact absurd (cell_lt (h.fzok _ _ _ hf)) (Nat.lt_irrefl _)
    · rw [upd_ne _ _ hd] at hk
      exact h.own k els' p hk (by simpa only [upd_ne _ _ hd] using hp)
  · have lt : ∀ (k : Nat) (els : List AV) (p : Pl), (s k).2 = some els → g.bk k = some p → p.b < w.heap.size := fun k els p hk hp => by
      rcases h.box k els hk with ⟨_, hy⟩ | ⟨q, hq, hx⟩
      · rw [hp] at hy; cases hy
      · rw [hp] at hq; cases hq; exact hx.lt
    by_cases hd : k = d
    · subst hd
      have hd' : k' ≠ k := fun e => hne e.symm
      rw [upd_ne _ _ hd'] at h2
      obtain rfl : (⟨w.heap.size, 0, z, cs.size⟩ : Pl) = p := by simpa [upd_same] using hp
      have := lt k' els2 p' h2 (by simpa only [upd_ne _ _ hd'] using hp')
      show w.heap.size ≠ p'.b
      omega
    · by_cases hd' : k' = d
      · subst hd'
        rw [upd_ne _ _ hd] at h1
        obtain rfl : (⟨w.heap.size, 0, z, cs.size⟩ : Pl) = p' := by simpa [upd_same] using hp'
        have := lt k els1 p h1 (by simpa only [upd_ne _ _ hd] using hp)
        show p.b ≠ w.heap.size
        omega
      · rw [upd_ne _ _ hd] at h1; rw [upd_ne _ _ hd'] at h2
        exact h.apart k k' els1 els2 p p' h1 h2 (by simpa only [upd_ne _ _ hd] using hp) (by simpa only [upd_ne _ _ hd'] using hp') hne

/-- An empty box that lies nowhere. -/
theorem Inv.alloc0 (h : Inv w0 S fz0 g s w) (d : Nat) :
    Inv w0 S fz0 { g with bk := upd g.bk d none } (upd s d ((s d).1 + 1, some [])) w ∧ Ext g s { g with bk := upd g.bk d none } (upd s d ((s d).1 + 1, some [])) := by
  have e : Ext g s { g with bk := upd g.bk d none } (upd s d ((s d).1 + 1, some [])) := by
    refine ⟨Fz.le_refl _, fun k => ?_, fun k hk => ?_, fun k els' hk he => ?_⟩
    · by_cases hd : k = d
      · subst hd; rw [upd_same]; simp
      · rw [upd_ne _ _ hd]; exact Nat.le_refl _
    · by_cases hd : k = d
      · subst hd; rw [upd_same] at hk; simp at hk
      · simp only [upd_ne _ _ hd]
    · by_cases hd : k = d
      · subst hd; rw [upd_same] at hk; simp at hk
      · rw [upd_ne _ _ hd] at he; exact ⟨els', he, rfl⟩
  refine ⟨⟨h.os, h.tape, h.output, h.size, h.old, h.fzle, h.fzok, h.fznew, fun k els' hk => ?_, fun k els' p hk hp => ?_, fun k k' els1 els2 p p' h1 h2 hp hp' hne => ?_⟩, e⟩
  · by_cases hd : k = d
    · subst hd; rw [upd_same] at hk
      exact .inl ⟨by simpa using hk.symm, upd_same _ _ _⟩
    · rw [upd_ne _ _ hd] at hk
      rcases h.box k els' hk with ⟨hx, hy⟩ | ⟨p, hp, hx⟩
      · exact .inl ⟨hx, by simpa only [upd_ne _ _ hd] using hy⟩
      · exact .inr ⟨p, by simpa only [upd_ne _ _ hd] using hp, hx.mono e rfl⟩
  · by_cases hd : k = d
    · subst hd; simp [upd_same] at hp
    · rw [upd_ne _ _ hd] at hk; exact h.own k els' p hk (by simpa only [upd_ne _ _ hd] using hp)
  · by_cases hd : k = d
    · subst hd; simp [upd_same] at hp
    · by_cases hd' : k' = d
      · subst hd'; simp [upd_same] at hp'
      · rw [upd_ne _ _ hd] at h1; rw [upd_ne _ _ hd'] at h2
        exact h.apart k k' els1 els2 p p' h1 h2 (by simpa only [upd_ne _ _ hd] using hp) (by simpa only [upd_ne _ _ hd'] using hp') hne

/-- A box is written, in place. -/
theorem Inv.write (h : Inv w0 S fz0 g s w) (ha : Alike w w') (k : Nat) (els els' : List AV) (p : Pl) (ver : Nat) (c' : Array Value) (t : TypeId)
    (hk : (s k).2 = some els) (hp : g.bk k = some p) (hver : (ver = (s k).1 ∧ els'.length = els.length) ∨ ver = (s k).1 + 1)
    (hb : w'.heap[p.b]? = some (.cells c' t (0, 0))) (hothers : ∀ b, b ≠ p.b → w'.heap[b]? = w.heap[b]?) (hsize : w'.heap.size = w.heap.size)
    (hc : c'.size = p.c) (hsz : p.base + els'.length * p.z ≤ p.c)
    (hels : ∀ i el, els'[i]? = some el → vok el = true ∧ el.cells.length = p.z ∧ ∀ j x, el.cells[j]? = some x → ∃ v, c'[p.base + i * p.z + j]? = some v ∧ v.oneCell' = true ∧ RepC g s v x) :
    Inv w0 S fz0 g (upd s k (ver, some els')) w' ∧ Ext g s g (upd s k (ver, some els')) := by
  have e : Ext g s g (upd s k (ver, some els')) := by
    refine ⟨Fz.le_refl _, fun j => ?_, fun j hj => rfl, fun j els2 hj he => ?_⟩
    · by_cases hd : j = k
      · subst hd; rw [upd_same]; rcases hver with ⟨h1, _⟩ | h1 <;> simp [h1]
      · rw [upd_ne _ _ hd]; exact Nat.le_refl _
    · by_cases hd : j = k
      · subst hd; rw [upd_same] at hj he
        rcases hver with ⟨_, h2⟩ | h1
        · have h3 : els' = els2 := by simpa using he
          exact ⟨els, hk, by rw [← h3]; exact h2.symm⟩
        · simp at hj; omega
      · rw [upd_ne _ _ hd] at he; exact ⟨els2, he, rfl⟩
  have hown := h.own k els p hk hp
  refine ⟨⟨ha.os.trans h.os, ha.tape.trans h.tape, ha.output.trans h.output, by rw [hsize]; exact h.size, fun b hb' hs => ?_, h.fzle, fun b o v hv => ?_, h.fznew, fun j els2 hj => ?_, fun j els2 q hj hq => ?_, fun j j' els1 els2 q q' h1 h2 hq hq' hne => ?_⟩, e⟩
  · have hne : b ≠ p.b := fun he => by
      subst he
      rcases hown.1 with h1 | h1
      · omega
      · exact hs h1
    rw [hothers b hne]; exact h.old b hb' hs
  · have hne : b ≠ p.b := fun he => by subst he; rw [hown.2 o] at hv; cases hv
    rw [cell_same (hothers b hne)]; exact h.fzok b o v hv
  · by_cases hd : j = k
    · subst hd; rw [upd_same] at hj
      obtain rfl : els' = els2 := by simpa using hj
      refine .inr ⟨p, hp, c', t, hb, hc, hsz, fun i el hi => ?_⟩
      obtain ⟨a, b, hcc⟩ := hels i el hi
      exact ⟨a, b, fun j x hx => let ⟨v, h5, h6, h7⟩ := hcc j x hx; ⟨v, h5, h6, h7.mono e⟩⟩
    · rw [upd_ne _ _ hd] at hj
      rcases h.box j els2 hj with hx | ⟨q, hq, hx⟩
      · exact .inl hx
      · exact .inr ⟨q, hq, hx.mono e (hothers _ (h.apart j k els2 els q p hj hk hq hp hd))⟩
  · by_cases hd : j = k
    · subst hd; exact h.own j els q hk hq
    · rw [upd_ne _ _ hd] at hj; exact h.own j els2 q hj hq
  · have f : ∀ (j : Nat) (els1 : List AV), (upd s k (ver, some els') j).2 = some els1 → ∃ els3, (s j).2 = some els3 := fun j els1 hj => by
      by_cases hd : j = k
      · subst hd; exact ⟨els, hk⟩
      · rw [upd_ne _ _ hd] at hj; exact ⟨els1, hj⟩
    obtain ⟨a, ha'⟩ := f j els1 h1
    obtain ⟨b, hb'⟩ := f j' els2 h2
    exact h.apart j j' a b q q' ha' hb' hq hq' hne

end
end Go.Proofs.YtjlebmnlphjjoaaGreatDoor.Abs
namespace Go.Proofs.YtjlebmnlphjjoaaGreatDoor.Abs

/-! ### Laying boxes down -/
/-- What the block of box k holds is laid down in fz. -/
def Frozen (g : G) (s : Nat → K) (w : World) (fz : Fz) (k : Nat) : Prop :=
  ∀ els p, (s k).2 = some els → g.bk k = some p → ∀ o v, w.cell? ⟨p.b, o, none⟩ = some v → fz p.b o = some v

open Classical in
/-- The cells of the boxes ks laid down. -/
noncomputable def fzOf (g : G) (s : Nat → K) (w : World) (ks : List Nat) : Fz := fun b o =>
  if ∃ k els p, k ∈ ks ∧ (s k).2 = some els ∧ g.bk k = some p ∧ p.b = b then w.cell? ⟨b, o, none⟩ else g.fz b o

theorem updAll_kill (s : Nat → K) (ks : List Nat) (k : Nat) : updAll s (kill s ks) k = if k ∈ ks then ((s k).1 + 1, none) else s k := by
  have : ∀ (ks : List Nat) (u : Nat → K), updAll u (kill s ks) k = if k ∈ ks then ((s k).1 + 1, none) else u k := by
    intro ks
    induction ks with
    | nil => intro u; simp [kill, updAll]
    | cons a r ih =>
      intro u
      have := ih (upd u a ((s a).1 + 1, none))
      simp only [kill, List.map_cons, updAll] at *
      rw [this]
      by_cases h : k ∈ r
      · simp [h]
      · by_cases hk : k = a
        · subst hk; simp [h, upd_same]
        · simp [h, hk, upd_ne _ _ hk]
  exact this ks s

theorem plainAll_eq : ∀ {els : List AV} {ps : List PV}, plainAll els = some ps → els = ps.map .p
  | [], ps, h => by simp [plainAll] at h; subst h; rfl
  | .p x :: r, ps, h => by
    simp only [plainAll] at h
    cases hr : plainAll r with
    | none => simp [hr] at h
    | some xs => simp [hr] at h; subst h; simp [plainAll_eq hr]
  | .e0 _ :: _, _, h => by simp [plainAll] at h
  | .mp .. :: _, _, h => by simp [plainAll] at h
  | .ms .. :: _, _, h => by simp [plainAll] at h
  | .ag _ :: _, _, h => by simp [plainAll] at h
  | .tu _ :: _, _, h => by simp [plainAll] at h
  | .cl .. :: _, _, h => by simp [plainAll] at h
  | .un :: _, _, h => by simp [plainAll] at h

theorem plainAll_map (ps : List PV) : plainAll (ps.map .p) = some ps := by
  induction ps with
  | nil => rfl
  | cons x r ih => simp [plainAll, ih]

section
variable {w0 : World} {S : Nat → Prop} {fz0 : Fz} {g : G} {s : Nat → K} {w w' : World}

theorem fzOf_le (h : Inv w0 S fz0 g s w) (ks : List Nat) : Fz.le g.fz (fzOf g s w ks) := by
  intro b o v hv
  unfold fzOf
  split
  · exact h.fzok b o v hv
  · exact hv

theorem fzOf_frozen (ks : List Nat) (k : Nat) (hk : k ∈ ks) : Frozen g s w (fzOf g s w ks) k := by
  intro els p h1 h2 o v hv
  unfold fzOf
  rw [if_pos ⟨k, els, p, hk, h1, h2, rfl⟩]
  exact hv

theorem fzOf_ok (h : Inv w0 S fz0 g s w) (ks : List Nat) : ∀ b o v, fzOf g s w ks b o = some v → w.cell? ⟨b, o, none⟩ = some v := by
  intro b o v hv
  unfold fzOf at hv
  split at hv
  · exact hv
  · exact h.fzok b o v hv

/-- The boxes ks are laid down, and gone. -/
theorem Inv.kill (h : Inv w0 S fz0 g s w) (ks : List Nat) :
    Inv w0 S fz0 { g with fz := fzOf g s w ks } (updAll s (kill s ks)) w ∧ Ext g s { g with fz := fzOf g s w ks } (updAll s (Abs.kill s ks)) := by
  have e : Ext g s { g with fz := fzOf g s w ks } (updAll s (Abs.kill s ks)) := by
    refine ⟨fzOf_le h ks, fun k => ?_, fun k hk => rfl, fun k els' hk he => ?_⟩
    · rw [updAll_kill]; split <;> simp
    · rw [updAll_kill] at he
      split at he
      · simp at he
      · exact ⟨els', he, rfl⟩
  have live : ∀ {k : Nat} {els : List AV}, (updAll s (Abs.kill s ks) k).2 = some els → k ∉ ks ∧ (s k).2 = some els := by
    intro k els hk
    rw [updAll_kill] at hk
    split at hk
    · simp at hk
    · rename_i hn; exact ⟨hn, hk⟩
  refine ⟨⟨h.os, h.tape, h.output, h.size, h.old, Fz.le_trans h.fzle (fzOf_le h ks), fzOf_ok h ks, fun b o v hv => ?_, fun k els hk => ?_, fun k els p hk hp => ?_, fun k k' els els' p p' h1 h2 hp hp' hne => ?_⟩, e⟩
  · have hv' : fzOf g s w ks b o = some v := hv
    unfold fzOf at hv'
    split at hv'
    · rename_i hx
      obtain ⟨k, els, p, _, h1, h2, rfl⟩ := hx
      exact .inr (h.own k els p h1 h2).1
    · exact h.fznew b o v hv'
  · obtain ⟨hn, hk'⟩ := live hk
    rcases h.box k els hk' with hx | ⟨p, hp, hx⟩
    · exact .inl hx
    · exact .inr ⟨p, hp, hx.mono e rfl⟩
  · obtain ⟨hn, hk'⟩ := live hk
    refine ⟨(h.own k els p hk' hp).1, fun o => ?_⟩
    show fzOf g s w ks p.b o = none
    unfold fzOf
    rw [if_neg]
    · exact (h.own k els p hk' hp).2 o
    · rintro ⟨k', els', p', hm, h1, h2, h3⟩
      exact h.apart k' k els' els p' p h1 hk' h2 hp (fun e => hn (e ▸ hm)) h3
  · exact h.apart k k' els els' p p' (live h1).2 (live h2).2 hp hp' hne

theorem repCells_of {fz : Fz} {b o : Nat} : ∀ (ps : List PV), (∀ j x, ps[j]? = some x → ∃ v, fz b (o + j) = some v ∧ v.oneCell' = true ∧ RepP fz v x) → RepCells fz b o ps := by
  intro ps
  induction ps generalizing o with
  | nil => intro _; exact .nil b o
  | cons x r ih =>
    intro hh
    obtain ⟨v, h1, h2, h3⟩ := hh 0 x rfl
    exact .cons b o v x r h1 h3 h2 (ih fun j y hy => by
      obtain ⟨v, h1, h2, h3⟩ := hh (j + 1) y hy
      exact ⟨v, by rwa [Nat.add_assoc, Nat.add_comm 1 j], h2, h3⟩)

theorem repEls_of {fz : Fz} {b z : Nat} : ∀ (ps : List PV) (o : Nat), (∀ i x, ps[i]? = some x → x.cells.length = z ∧ RepCells fz b (o + i * z) x.cells) → RepEls fz b o z ps := by
  intro ps
  induction ps with
  | nil => intro o _; exact .nil b o z
  | cons x r ih =>
    intro o hh
    obtain ⟨h1, h2⟩ := hh 0 x rfl
    exact .cons b o z x r (by simpa using h2) h1 (ih (o + z) fun i y hy => by
      obtain ⟨h1, h2⟩ := hh (i + 1) y hy
      refine ⟨h1, ?_⟩
      have : o + (i + 1) * z = o + z + i * z := by rw [Nat.add_mul, Nat.one_mul]; omega
      rwa [this] at h2)

theorem cells_p (x : PV) : (AV.p x).cells = x.cells.map .p := by
  cases x <;> rfl

/-- The cells of a box's element, as they lie laid down. -/
theorem boxCells (h : Inv w0 S fz0 g s w) {fz : Fz} (hle : Fz.le g.fz fz) {k : Nat} (hF : Frozen g s w fz k) {els : List AV} {p : Pl} (hk : (s k).2 = some els) (hp : g.bk k = some p)
    {i : Nat} {el : AV} (hi : els[i]? = some el) {ps : List PV} (hps : plainAll el.cells = some ps) : RepCells fz p.b (p.base + i * p.z) ps := by
  rcases h.box k els hk with ⟨hx, hy⟩ | ⟨q, hq, c, t, hb, hc, hsz, hels⟩
  · rw [hp] at hy; cases hy
  · rw [hp] at hq; cases hq
    obtain ⟨_, hl, hcell⟩ := hels i el hi
    refine repCells_of ps fun j x hx => ?_
    have hel : el.cells[j]? = some (.p x) := by rw [plainAll_eq hps]; simp [hx]
    obtain ⟨v, h1, h2, h3⟩ := hcell j _ hel
    exact ⟨v, hF els p hk hp _ v (by simp [World.cell?, hb, h1]), h2, RepP.mono hle h3⟩

theorem boxCellsLen (h : Inv w0 S fz0 g s w) {k : Nat} {els : List AV} {p : Pl} (hk : (s k).2 = some els) (hp : g.bk k = some p)
    {i : Nat} {el : AV} (hi : els[i]? = some el) : el.cells.length = p.z := by
  rcases h.box k els hk with ⟨hx, hy⟩ | ⟨q, hq, c, t, hb, hc, hsz, hels⟩
  · rw [hp] at hy; cases hy
  · rw [hp] at hq; cases hq; exact (hels i el hi).2.1

theorem repLs {fz : Fz} {b : Option Addr} {z : Nat} (hb : SpotOk b) : RepP fz (.slice b 0 0) (.ls z []) := by
  cases b with
  | none => exact .lsn z
  | some a =>
    obtain ⟨x, y, sp⟩ := a
    have : sp = none := hb _ rfl
    subst this
    exact .ls x y 0 z [] (.nil _ _ _) (Nat.le_refl _)

theorem freezeC_rep (h : Inv w0 S fz0 g s w) {fz : Fz} (hle : Fz.le g.fz fz) {v : Value} {x : AV} {y : PV} (hF : ∀ k ∈ keysC x, Frozen g s w fz k) (hr : RepC g s v x) (hy : freezeC s x = some y) : RepP fz v y := by
  cases x with
  | p x => simp only [freezeC, Option.some.injEq] at hy; subst hy; exact RepP.mono hle hr
  | e0 z => simp only [freezeC, Option.some.injEq] at hy; subst hy; obtain ⟨b, rfl, hb⟩ := hr; exact repLs hb
  | mp k ver i o =>
    simp only [freezeC, lk] at hy
    obtain ⟨h0, h1, h2⟩ := hr
    split at hy
    · rename_i els hels
      split at hels
      · rename_i hv
        obtain ⟨p, hp, rfl⟩ := h2 hv
        split at hy
        · rename_i el hel
          split at hy
          · rename_i ps hps
            obtain rfl : PV.fp ps o = y := by simpa using hy
            exact .fp p.b (p.base + i * p.z) o ps (boxCells h hle (hF k (by simp [keysC])) hels hp hel hps)
          · cases hy
        · cases hy
      · cases hels
    · cases hy
  | ms k ver o n z =>
    simp only [freezeC, lk] at hy
    obtain ⟨h0, h1, h2⟩ := hr
    split at hy
    · rename_i els hels
      split at hels
      · rename_i hv
        split at hy
        · rename_i ps hps
          obtain rfl : PV.ls z ((ps.drop o).take n) = y := by simpa using hy
          have hpe := plainAll_eq hps
          rcases h2 hv with ⟨b, rfl, hb, rfl, hl⟩ | ⟨p, cap, hp, hz, rfl, hc, hC, hl⟩
          · exact repLs hb
          · have hl' := hl els hels
            have hlen : ((ps.drop o).take n).length = n := by
              have : els.length = ps.length := by rw [hpe]; simp
              simp; omega
            have key : RepEls fz p.b (p.base + o * z) z ((ps.drop o).take n) := by
              refine repEls_of _ _ fun i x hx => ?_
              have hx' : ps[o + i]? = some x := by
                rw [List.getElem?_take] at hx
                split at hx
                · rwa [List.getElem?_drop] at hx
                · cases hx
              have hel : els[o + i]? = some (.p x) := by rw [hpe]; simp [hx']
              have hlen' := boxCellsLen h hels hp hel
              rw [cells_p] at hlen'
              refine ⟨by simpa [hz] using hlen', ?_⟩
              have := boxCells h hle (hF k (by simp [keysC])) hels hp hel (ps := x.cells) (by rw [cells_p]; exact plainAll_map _)
              rw [hz] at this
              have e : p.base + (o + i) * z = p.base + o * z + i * z := by rw [Nat.add_mul]; omega
              rwa [e] at this
            have := RepP.ls p.b (p.base + o * z) cap z _ key (by rw [hlen]; exact hc)
            rwa [hlen] at this
        · cases hy
      · cases hels
    · cases hy
  | un => simp [freezeC] at hy
  | ag cs => exact hr.elim
  | tu vs => exact hr.elim
  | cl f a c => exact hr.elim

theorem freezeCs_reps (h : Inv w0 S fz0 g s w) {fz : Fz} (hle : Fz.le g.fz fz) : ∀ {vs : List Value} {xs : List AV} {ys : List PV}, (∀ x ∈ xs, ∀ k ∈ keysC x, Frozen g s w fz k) → RepCs g s vs xs → freezeCs s xs = some ys → RepVs fz vs ys
  | [], [], ys, _, _, hy => by simp [freezeCs] at hy; subst hy; exact .nil
  | v :: vs, x :: xs, ys, hF, ⟨hr, ho, hrs⟩, hy => by
    simp only [freezeCs] at hy
    split at hy
    · rename_i y h1
      split at hy
      · rename_i zs h2
        obtain rfl : y :: zs = ys := by simpa using hy
        exact .cons v y vs zs (freezeC_rep h hle (hF x (by simp)) hr h1) ho (freezeCs_reps h hle (fun x hx => hF x (by simp [hx])) hrs h2)
      · cases hy
    · cases hy
  | [], _ :: _, _, _, hr, _ => hr.elim
  | _ :: _, [], _, _, hr, _ => hr.elim

theorem freezeTs_reps (h : Inv w0 S fz0 g s w) {fz : Fz} (hle : Fz.le g.fz fz) : ∀ {vs : List Value} {xs : List AV} {ys : List PV}, (∀ x ∈ xs, ∀ k ∈ keysC x, Frozen g s w fz k) → RepTC g s vs xs → freezeCs s xs = some ys → RepTs fz vs ys
  | [], [], ys, _, _, hy => by simp [freezeCs] at hy; subst hy; exact .nil
  | v :: vs, x :: xs, ys, hF, ⟨hr, hrs⟩, hy => by
    simp only [freezeCs] at hy
    split at hy
    · rename_i y h1
      split at hy
      · rename_i zs h2
        obtain rfl : y :: zs = ys := by simpa using hy
        exact .cons v y vs zs (freezeC_rep h hle (hF x (by simp)) hr h1) (freezeTs_reps h hle (fun x hx => hF x (by simp [hx])) hrs h2)
      · cases hy
    · cases hy
  | [], _ :: _, _, _, hr, _ => hr.elim
  | _ :: _, [], _, _, hr, _ => hr.elim

theorem normC_rep {fz : Fz} {v : Value} {x : PV} (sh : Option Nat) (h : RepP fz v x) : RepP fz v (normC sh x) := by
  unfold normC
  cases sh with
  | none => exact h
  | some z => cases x <;> first | exact h | (cases h; exact .lsn z)

theorem normCs_rep {fz : Fz} : ∀ {vs : List Value} {xs : List PV} (sh : Shape), RepVs fz vs xs → RepVs fz vs (normCs sh xs)
  | _, _, sh, .nil => by cases sh <;> simp [normCs] <;> exact .nil
  | _, _, [], .cons v x vs xs h o r => by simp only [normCs]; exact .cons v x vs xs h o r
  | _, _, s :: sh, .cons v x vs xs h o r => by simp only [normCs]; exact .cons v _ vs _ (normC_rep s h) o (normCs_rep sh r)

theorem normP_rep {fz : Fz} {v : Value} {x : PV} (sh : Shape) (h : RepP fz v x) : RepP fz v (normP sh x) := by
  cases x with
  | agg cs => cases h with | agg vs _ hv => exact .agg vs _ (normCs_rep sh hv)
  | _ =>
    simp only [normP]
    split
    · exact normC_rep _ h
    · exact h

theorem frz_rep (h : Inv w0 S fz0 g s w) {fz : Fz} (hle : Fz.le g.fz fz) {v : Value} {x : AV} {y : PV} (sh : Shape) (hF : ∀ k ∈ keysV x, Frozen g s w fz k) (hr : RepV g s v x) (hy : frz s sh x = some y) : RepP fz v y := by
  cases x with
  | p x => simp only [frz, Option.some.injEq] at hy; subst hy; exact normP_rep sh (RepP.mono hle hr)
  | ag cs =>
    simp only [frz] at hy
    split at hy
    · rename_i ps hps
      obtain rfl : PV.agg (normCs sh ps) = y := by simpa using hy
      obtain ⟨vs, rfl, hcs⟩ := hr
      exact .agg vs _ (normCs_rep sh (freezeCs_reps h hle (fun x hx k hk => hF k (by simp only [keysV, List.mem_flatMap]; exact ⟨x, hx, hk⟩)) hcs hps))
    · cases hy
  | cl f a c =>
    simp only [frz] at hy
    split at hy
    · rename_i a' ha
      split at hy
      · rename_i c' hc
        obtain rfl : PV.fn f a' c' = y := by simpa using hy
        obtain ⟨va, vc, rfl, h1, h2⟩ := hr
        exact .fn f va vc a' c' (freezeTs_reps h hle (fun x hx k hk => hF k (by simp only [keysV, List.mem_append, List.mem_flatMap]; exact .inl ⟨x, hx, hk⟩)) h1 ha)
          (freezeTs_reps h hle (fun x hx k hk => hF k (by simp only [keysV, List.mem_append, List.mem_flatMap]; exact .inr ⟨x, hx, hk⟩)) h2 hc)
      · cases hy
    · cases hy
  | tu vs => exact hr.elim
  | e0 z => exact freezeC_rep h hle (x := .e0 z) hF hr hy
  | mp k v i o => exact freezeC_rep h hle (x := .mp k v i o) hF hr hy
  | ms k v o n z => exact freezeC_rep h hle (x := .ms k v o n z) hF hr hy
  | un => simp [frz, freezeC] at hy

theorem freezes_rep (h : Inv w0 S fz0 g s w) {fz : Fz} (hle : Fz.le g.fz fz) : ∀ {vs : List Value} {xs : List AV} {ys : List PV} (sh : List Shape), (∀ k ∈ xs.flatMap keysV, Frozen g s w fz k) → RepTV g s vs xs → freezes s sh xs = some ys → RepTs fz vs ys
  | [], [], ys, sh, _, _, hy => by simp [freezes] at hy; subst hy; exact .nil
  | v :: vs, x :: xs, ys, sh, hF, ⟨hr, hrs⟩, hy => by
    simp only [freezes] at hy
    split at hy
    · rename_i y h1
      split at hy
      · rename_i zs h2
        obtain rfl : y :: zs = ys := by simpa using hy
        exact .cons v y vs zs (frz_rep h hle _ (fun k hk => hF k (by simp [hk])) hr h1) (freezes_rep h hle _ (fun k hk => hF k (by simp only [List.flatMap_cons, List.mem_append]; exact .inr hk)) hrs h2)
      · cases hy
    · cases hy
  | [], _ :: _, _, _, _, hr, _ => hr.elim
  | _ :: _, [], _, _, _, hr, _ => hr.elim

/-! Two levels deep -/
theorem freezeCs_get : ∀ {cs : List AV} {ps : List PV}, freezeCs s cs = some ps → ps.length = cs.length ∧ ∀ (j : Nat) (y : PV), ps[j]? = some y → ∃ x, cs[j]? = some x ∧ freezeC s x = some y
  | [], ps, h => by simp [freezeCs] at h; subst h; simp
  | x :: cs, ps, h => by
    simp only [freezeCs] at h
    split at h
    · rename_i y h1
      split at h
      · rename_i ys h2
        simp only [Option.some.injEq] at h; subst h
        obtain ⟨l, hh⟩ := freezeCs_get h2
        refine ⟨by simp [l], fun j z hz => ?_⟩
        cases j with
        | zero => simp only [List.getElem?_cons_zero, Option.some.injEq] at hz; subst hz; exact ⟨x, rfl, h1⟩
        | succ j => simpa using hh j z (by simpa using hz)
      · cases h
    · cases h

theorem freezeEs_get : ∀ {cs : List AV} {ps : List PV}, freezeEs s cs = some ps → ps.length = cs.length ∧ ∀ (j : Nat) (y : PV), ps[j]? = some y → ∃ x, cs[j]? = some x ∧ freezeE s x = some y
  | [], ps, h => by simp [freezeEs] at h; subst h; simp
  | x :: cs, ps, h => by
    simp only [freezeEs] at h
    split at h
    · rename_i y h1
      split at h
      · rename_i ys h2
        simp only [Option.some.injEq] at h; subst h
        obtain ⟨l, hh⟩ := freezeEs_get h2
        refine ⟨by simp [l], fun j z hz => ?_⟩
        cases j with
        | zero => simp only [List.getElem?_cons_zero, Option.some.injEq] at hz; subst hz; exact ⟨x, rfl, h1⟩
        | succ j => simpa using hh j z (by simpa using hz)
      · cases h
    · cases h

theorem freezeC_one {x : AV} {y : PV} (hx : ∀ z, x ≠ .p z) (h : freezeC s x = some y) : y.cells = [y] ∧ x.cells = [x] := by
  cases x with
  | p z => exact absurd rfl (hx z)
  | e0 z => simp only [freezeC, Option.some.injEq] at h; subst h; exact ⟨rfl, rfl⟩
  | mp k v i o =>
    simp only [freezeC] at h
    split at h
    · split at h
      · split at h
        · simp only [Option.some.injEq] at h; subst h; exact ⟨rfl, rfl⟩
        · cases h
      · cases h
    · cases h
  | ms k v o n z =>
    simp only [freezeC] at h
    split at h
    · split at h
      · simp only [Option.some.injEq] at h; subst h; exact ⟨rfl, rfl⟩
      · cases h
    · cases h
  | _ => simp [freezeC] at h

theorem freezeE_get {el : AV} {y : PV} (h : freezeE s el = some y) : y.cells.length = el.cells.length ∧ ∀ (j : Nat) (z : PV), y.cells[j]? = some z → ∃ x, el.cells[j]? = some x ∧ freezeC s x = some z ∧ ∀ k ∈ keysC x, k ∈ keysV el := by
  cases el with
  | p x =>
    simp only [freezeE, Option.some.injEq] at h; subst h
    refine ⟨by rw [cells_p]; simp, fun j z hz => ⟨.p z, by rw [cells_p]; simp [hz], rfl, by simp [keysC]⟩⟩
  | ag cs =>
    simp only [freezeE] at h
    split at h
    · rename_i ps hps
      simp only [Option.some.injEq] at h; subst h
      obtain ⟨l, hh⟩ := freezeCs_get hps
      refine ⟨l, fun j z hz => ?_⟩
      obtain ⟨x, hx, hf⟩ := hh j z hz
      exact ⟨x, hx, hf, fun k hk => by simp only [keysV, List.mem_flatMap]; exact ⟨x, List.mem_of_getElem? hx, hk⟩⟩
    · cases h
  | tu vs => simp [freezeE, freezeC] at h
  | cl f a c => simp [freezeE, freezeC] at h
  | un => simp [freezeE, freezeC] at h
  | e0 z =>
    have h' : freezeC s (.e0 z) = some y := h
    obtain ⟨h1, h2⟩ := freezeC_one (by intro z h; cases h) h'
    rw [h1, h2]
    refine ⟨rfl, fun j z hz => ?_⟩
    cases j with
    | zero => simp only [List.getElem?_cons_zero, Option.some.injEq] at hz; subst hz; exact ⟨_, rfl, h', fun k hk => hk⟩
    | succ j => simp at hz
  | mp k v i o =>
    have h' : freezeC s (.mp k v i o) = some y := h
    obtain ⟨h1, h2⟩ := freezeC_one (by intro z h; cases h) h'
    rw [h1, h2]
    refine ⟨rfl, fun j z hz => ?_⟩
    cases j with
    | zero => simp only [List.getElem?_cons_zero, Option.some.injEq] at hz; subst hz; exact ⟨_, rfl, h', fun k hk => hk⟩
    | succ j => simp at hz
  | ms k v o n z =>
    have h' : freezeC s (.ms k v o n z) = some y := h
    obtain ⟨h1, h2⟩ := freezeC_one (by intro z h; cases h) h'
    rw [h1, h2]
    refine ⟨rfl, fun j z hz => ?_⟩
    cases j with
    | zero => simp only [List.getElem?_cons_zero, Option.some.injEq] at hz; subst hz; exact ⟨_, rfl, h', fun k hk => hk⟩
    | succ j => simp at hz

theorem freezeE_cells (h : Inv w0 S fz0 g s w) {fz : Fz} (hle : Fz.le g.fz fz) {k : Nat} (hF : Frozen g s w fz k) {els : List AV} {p : Pl} (hk : (s k).2 = some els) (hp : g.bk k = some p)
    {i : Nat} {el : AV} (hi : els[i]? = some el) {y : PV} (hFi : ∀ k ∈ keysV el, Frozen g s w fz k) (hy : freezeE s el = some y) : y.cells.length = p.z ∧ RepCells fz p.b (p.base + i * p.z) y.cells := by
  obtain ⟨l, hh⟩ := freezeE_get hy
  rcases h.box k els hk with ⟨hx, hy⟩ | ⟨q, hq, c, t, hb, hc, hsz, hels⟩
  · rw [hp] at hy; cases hy
  · rw [hp] at hq; cases hq
    obtain ⟨_, hl, hcell⟩ := hels i el hi
    refine ⟨l.trans hl, repCells_of _ fun j z hz => ?_⟩
    obtain ⟨x, hx, hf, hkx⟩ := hh j z hz
    obtain ⟨v, h1, h2, h3⟩ := hcell j x hx
    exact ⟨v, hF els p hk hp _ v (by simp [World.cell?, hb, h1]), h2, freezeC_rep h hle (fun k hk => hFi k (hkx k hk)) h3 hf⟩

theorem freezeCD_rep (h : Inv w0 S fz0 g s w) {fz : Fz} (hle : Fz.le g.fz fz) {v : Value} {x : AV} {y : PV} (hF : ∀ k ∈ keysC x ++ (keysC x).flatMap (keysI s), Frozen g s w fz k) (hr : RepC g s v x) (hy : freezeCD s x = some y) : RepP fz v y := by
  have hF0 : ∀ k ∈ keysC x, Frozen g s w fz k := fun k hk => hF k (List.mem_append_left _ hk)
  cases x with
  | ms k ver o n z =>
    simp only [freezeCD] at hy
    split at hy
    · rename_i els hels
      split at hy
      · rename_i ps hps
        exact freezeC_rep h hle hF0 hr (by simp only [freezeC, hels, hps]; exact hy)
      · rename_i hnp
        split at hy
        · rename_i hon
          split at hy
          · rename_i ps hps
            simp only [lk] at hels
            split at hels
            · rename_i hv
              obtain ⟨h0, h1, h2⟩ := hr
              obtain ⟨l, hh⟩ := freezeEs_get hps
              simp only [Option.some.injEq] at hy; subst hy
              rcases h2 hv with ⟨b, rfl, hb, rfl, hl⟩ | ⟨p, cap, hp, hz, rfl, hc, hC, hl⟩
              · simp only [List.take_zero, List.length_nil] at l
                rw [List.eq_nil_of_length_eq_zero l]
                exact repLs hb
              · have hlen : ps.length = n := by rw [l]; simp; omega
                have key : RepEls fz p.b (p.base + o * z) z ps := by
                  refine repEls_of _ _ fun i x hx => ?_
                  obtain ⟨el, hel, hfe⟩ := hh i x hx
                  have hel' : els[o + i]? = some el := by
                    rw [List.getElem?_take] at hel
                    split at hel
                    · rwa [List.getElem?_drop] at hel
                    · cases hel
                  have := freezeE_cells h hle (hF0 k (by simp [keysC])) hels hp hel' (fun k' hk' => hF k' (List.mem_append_right _ (by
                    simp only [keysC, List.flatMap_cons, List.flatMap_nil, List.append_nil, keysI, hels, hnp, List.mem_flatMap]
                    exact ⟨el, List.mem_of_getElem? hel', hk'⟩))) hfe
                  rw [hz] at this
                  refine ⟨this.1, ?_⟩
                  have e : p.base + (o + i) * z = p.base + o * z + i * z := by rw [Nat.add_mul]; omega
                  rw [← e]; exact this.2
                have := RepP.ls p.b (p.base + o * z) cap z _ key (by rw [hlen]; exact hc)
                rwa [hlen] at this
            · cases hels
          · cases hy
        · cases hy
    · cases hy
  | p x => exact freezeC_rep h hle hF0 hr hy
  | e0 z => exact freezeC_rep h hle hF0 hr hy
  | mp k v i o => exact freezeC_rep h hle hF0 hr hy
  | un => simp [freezeCD, freezeC] at hy
  | ag cs => exact hr.elim
  | tu vs => exact hr.elim
  | cl f a c => exact hr.elim

theorem freezeCDs_reps (h : Inv w0 S fz0 g s w) {fz : Fz} (hle : Fz.le g.fz fz) : ∀ {vs : List Value} {xs : List AV} {ys : List PV}, (∀ x ∈ xs, ∀ k ∈ keysC x ++ (keysC x).flatMap (keysI s), Frozen g s w fz k) → RepCs g s vs xs → freezeCDs s xs = some ys → RepVs fz vs ys
  | [], [], ys, _, _, hy => by simp [freezeCDs] at hy; subst hy; exact .nil
  | v :: vs, x :: xs, ys, hF, ⟨hr, ho, hrs⟩, hy => by
    simp only [freezeCDs] at hy
    split at hy
    · rename_i y h1
      split at hy
      · rename_i zs h2
        obtain rfl : y :: zs = ys := by simpa using hy
        exact .cons v y vs zs (freezeCD_rep h hle (hF x (by simp)) hr h1) ho (freezeCDs_reps h hle (fun x hx => hF x (by simp [hx])) hrs h2)
      · cases hy
    · cases hy
  | [], _ :: _, _, _, hr, _ => hr.elim
  | _ :: _, [], _, _, hr, _ => hr.elim

theorem frzD_rep (h : Inv w0 S fz0 g s w) {fz : Fz} (hle : Fz.le g.fz fz) {v : Value} {x : AV} {y : PV} (sh : Shape) (hF : ∀ k ∈ keysD s x, Frozen g s w fz k) (hr : RepV g s v x) (hy : frzD s sh x = some y) : RepP fz v y := by
  cases x with
  | p x => simp only [frzD, Option.some.injEq] at hy; subst hy; exact normP_rep sh (RepP.mono hle hr)
  | ag cs =>
    simp only [frzD] at hy
    split at hy
    · rename_i ps hps
      obtain rfl : PV.agg (normCs sh ps) = y := by simpa using hy
      obtain ⟨vs, rfl, hcs⟩ := hr
      refine .agg vs _ (normCs_rep sh (freezeCDs_reps h hle (fun x hx k hk => hF k ?_) hcs hps))
      unfold keysD keysV
      rw [List.mem_append] at hk ⊢
      rcases hk with hk | hk
      · exact .inl (by simp only [List.mem_flatMap]; exact ⟨x, hx, hk⟩)
      · rw [List.mem_flatMap] at hk
        obtain ⟨k', hk', hkk⟩ := hk
        exact .inr (by rw [List.mem_flatMap]; exact ⟨k', by simp only [List.mem_flatMap]; exact ⟨x, hx, hk'⟩, hkk⟩)
    · cases hy
  | cl f a c => simp [frzD] at hy
  | tu vs => exact hr.elim
  | e0 z => exact freezeCD_rep h hle (x := .e0 z) hF hr hy
  | mp k v i o => exact freezeCD_rep h hle (x := .mp k v i o) hF hr hy
  | ms k v o n z => exact freezeCD_rep h hle (x := .ms k v o n z) hF hr hy
  | un => simp [frzD, freezeCD, freezeC] at hy

theorem freezesD_rep (h : Inv w0 S fz0 g s w) {fz : Fz} (hle : Fz.le g.fz fz) : ∀ {vs : List Value} {xs : List AV} {ys : List PV} (sh : List Shape), (∀ k ∈ xs.flatMap (keysD s), Frozen g s w fz k) → RepTV g s vs xs → freezesD s sh xs = some ys → RepTs fz vs ys
  | [], [], ys, sh, _, _, hy => by simp [freezesD] at hy; subst hy; exact .nil
  | v :: vs, x :: xs, ys, sh, hF, ⟨hr, hrs⟩, hy => by
    simp only [freezesD] at hy
    split at hy
    · rename_i y h1
      split at hy
      · rename_i zs h2
        obtain rfl : y :: zs = ys := by simpa using hy
        exact .cons v y vs zs (frzD_rep h hle _ (fun k hk => hF k (by rw [List.flatMap_cons, List.mem_append]; exact .inl hk)) hr h1) (freezesD_rep h hle _ (fun k hk => hF k (by simp only [List.flatMap_cons, List.mem_append]; exact .inr hk)) hrs h2)
      · cases hy
    · cases hy
  | [], _ :: _, _, _, _, hr, _ => hr.elim
  | _ :: _, [], _, _, _, hr, _ => hr.elim

theorem keysV_D {xs : List AV} {k : Nat} (h : k ∈ xs.flatMap keysV) : k ∈ xs.flatMap (keysD s) := by
  rw [List.mem_flatMap] at h ⊢
  obtain ⟨x, hx, hk⟩ := h
  exact ⟨x, hx, List.mem_append_left _ hk⟩

theorem freezesX_rep (h : Inv w0 S fz0 g s w) {fz : Fz} (hle : Fz.le g.fz fz) {vs : List Value} {xs : List AV} {ys : List PV} (sh : List Shape) (hF : ∀ k ∈ xs.flatMap (keysD s), Frozen g s w fz k) (hr : RepTV g s vs xs) (hy : freezesX s sh xs = some ys) : RepTs fz vs ys := by
  unfold freezesX at hy
  split at hy
  · rename_i ps hps
    simp only [Option.some.injEq] at hy; subst hy
    exact freezes_rep h hle sh (fun k hk => hF k (keysV_D hk)) hr hps
  · exact freezesD_rep h hle sh hF hr hy

/-! Flat values -/
theorem flat0_rep {fz fz' : Fz} {v : Value} {x : PV} (ha : flat0 x = true) (h : RepP fz v x) : RepP fz' v x := by
  cases x with
  | int k n => cases h; exact .int k n
  | bool b => cases h; exact .bool b
  | str b => cases h; exact .str b
  | nilp => cases h; exact .nilp
  | nls => cases h; exact .nls
  | nilf => cases h; exact .nilf
  | ls z xs =>
    cases xs with
    | nil => cases h with
      | lsn => exact .lsn z
      | ls b o cap _ _ h hc => exact .ls b o cap z [] (.nil _ _ _) hc
    | cons y ys => simp [flat0] at ha
  | _ => simp [flat0] at ha

theorem flat0_reps {fz fz' : Fz} : ∀ {vs : List Value} {xs : List PV}, xs.all flat0 = true → RepVs fz vs xs → RepVs fz' vs xs
  | [], [], _, _ => .nil
  | v :: vs, x :: xs, ha, h => by
    simp only [List.all_cons, Bool.and_eq_true] at ha
    cases h with | cons _ _ _ _ h o r => exact .cons v x vs xs (flat0_rep ha.1 h) o (flat0_reps ha.2 r)
  | [], _ :: _, _, h => by cases h
  | _ :: _, [], _, h => by cases h

theorem flat1_rep {fz fz' : Fz} {v : Value} {x : PV} (ha : flat1 x = true) (h : RepP fz v x) : RepP fz' v x := by
  cases x with
  | agg cs => cases h with | agg vs _ hv => exact .agg vs _ (flat0_reps ha hv)
  | _ => exact flat0_rep ha h

theorem flat1_reps {fz fz' : Fz} : ∀ {vs : List Value} {xs : List PV}, xs.all flat1 = true → RepTs fz vs xs → RepTs fz' vs xs
  | [], [], _, _ => .nil
  | v :: vs, x :: xs, ha, h => by
    simp only [List.all_cons, Bool.and_eq_true] at ha
    cases h with | cons _ _ _ _ h r => exact .cons v x vs xs (flat1_rep ha.1 h) (flat1_reps ha.2 r)
  | [], _ :: _, _, h => by cases h
  | _ :: _, [], _, h => by cases h

theorem flatC_rep {fz' : Fz} {v : Value} {x : AV} (ha : flatC x = true) (h : RepC g s v x) : RepC { g with fz := fz' } s v x := by
  cases x with
  | p x => exact flat0_rep ha h
  | e0 z => exact h
  | mp k v i o => exact h
  | ms k v o n z => exact h
  | _ => simp [flatC] at ha

theorem flatCs_rep {fz' : Fz} : ∀ {vs : List Value} {xs : List AV}, xs.all flatC = true → RepCs g s vs xs → RepCs { g with fz := fz' } s vs xs
  | [], [], _, _ => trivial
  | v :: vs, x :: xs, ha, ⟨h, o, r⟩ => by
    simp only [List.all_cons, Bool.and_eq_true] at ha
    exact ⟨flatC_rep ha.1 h, o, flatCs_rep ha.2 r⟩
  | [], _ :: _, _, h => h.elim
  | _ :: _, [], _, h => h.elim

theorem flatV_rep {fz' : Fz} {v : Value} {x : AV} (ha : flatV x = true) (h : RepV g s v x) : RepV { g with fz := fz' } s v x := by
  cases x with
  | p x => exact flat1_rep (fz := g.fz) ha h
  | ag cs => obtain ⟨vs, hv, hc⟩ := h; exact ⟨vs, hv, flatCs_rep ha hc⟩
  | e0 z => exact h
  | mp k v i o => exact h
  | ms k v o n z => exact h
  | _ => simp [flatV, flatC] at ha

theorem flatVs_rep {fz' : Fz} : ∀ {vs : List Value} {xs : List AV}, xs.all flatV = true → RepTV g s vs xs → RepTV { g with fz := fz' } s vs xs
  | [], [], _, _ => trivial
  | v :: vs, x :: xs, ha, ⟨h, r⟩ => by
    simp only [List.all_cons, Bool.and_eq_true] at ha
    exact ⟨flatV_rep ha.1 h, flatVs_rep ha.2 r⟩
  | [], _ :: _, _, h => h.elim
  | _ :: _, [], _, h => h.elim

theorem flatA_rep {fz' : Fz} {v : Value} {x : AV} (ha : flatA x = true) (h : RepA g s v x) : RepA { g with fz := fz' } s v x := by
  cases x with
  | tu xs => obtain ⟨vs, hv, hc⟩ := h; exact ⟨vs, hv, flatVs_rep ha hc⟩
  | p x =>
    cases x with
    | tup ys => cases h with | tup vs _ hv => exact RepP.tup vs _ (flat1_reps ha hv)
    | _ => exact flatV_rep (s := s) (x := .p _) ha h
  | e0 z => exact h
  | mp k v i o => exact h
  | ms k v o n z => exact h
  | ag cs => exact flatV_rep (x := .ag cs) ha h
  | _ => simp [flatA, flatV, flatC] at ha

theorem flatV_cells {x : AV} (ha : flatV x = true) {j : Nat} {y : AV} (hy : x.cells[j]? = some y) : flatC y = true := by
  have one : ∀ {x : AV}, flatC x = true → ∀ {j : Nat} {y : AV}, [x][j]? = some y → flatC y = true := fun {x} hx {j y} h => by
    cases j with
    | zero => simp only [List.getElem?_cons_zero, Option.some.injEq] at h; subst h; exact hx
    | succ j => simp at h
  cases x with
  | p x =>
    rw [cells_p] at hy
    rw [List.getElem?_map] at hy
    cases hx : x.cells[j]? with
    | none => simp [hx] at hy
    | some z =>
      simp [hx] at hy; subst hy
      cases x with
      | agg cs =>
        have : flat0 z = true := List.all_eq_true.1 (show cs.all flat0 = true from ha) z (List.mem_of_getElem? hx)
        exact this
      | _ =>
        cases j with
        | zero => simp only [PV.cells, List.getElem?_cons_zero, Option.some.injEq] at hx; subst hx; exact ha
        | succ j => simp [PV.cells] at hx
  | ag cs => exact List.all_eq_true.1 (show cs.all flatC = true from ha) y (List.mem_of_getElem? hy)
  | e0 z => exact one (x := .e0 z) ha hy
  | mp k v i o => exact one (x := .mp k v i o) ha hy
  | ms k v o n z => exact one (x := .ms k v o n z) ha hy
  | tu vs => simp [flatV, flatC] at ha
  | cl f a c => simp [flatV, flatC] at ha
  | un => simp [flatV, flatC] at ha

end
end Go.Proofs.YtjlebmnlphjjoaaGreatDoor.Abs
namespace Go.Proofs.YtjlebmnlphjjoaaGreatDoor.Abs

/-! ### Values and cells -/
theorem RepP.oneCell {fz : Fz} {v : Value} {x : PV} (h : RepP fz v x) (ha : ∀ cs, x ≠ .agg cs) (ht : ∀ cs, x ≠ .tup cs) : v.oneCell' = true := by
  cases h <;> first | rfl | exact absurd rfl (ha _) | exact absurd rfl (ht _)

theorem RepVs.length {fz : Fz} {vs : List Value} {xs : List PV} (h : RepVs fz vs xs) : vs.length = xs.length := by
  induction xs generalizing vs with
  | nil => cases h; rfl
  | cons x r ih => cases h with | cons v _ vs _ _ _ hr => simp [ih hr]

section
variable {g : G} {s : Nat → K}

theorem RepVs.cs {fz : Fz} (hz : g.fz = fz) : ∀ {vs : List Value} {xs : List PV}, RepVs fz vs xs → RepCs g s vs (xs.map .p)
  | _, _, .nil => trivial
  | _, _, .cons v x vs xs h o r => ⟨by subst hz; exact h, o, RepVs.cs hz r⟩

theorem RepCs.length : ∀ {vs : List Value} {xs : List AV}, RepCs g s vs xs → vs.length = xs.length
  | [], [], _ => rfl
  | _ :: _, _ :: _, ⟨_, _, r⟩ => by simp [RepCs.length r]
  | [], _ :: _, h => h.elim
  | _ :: _, [], h => h.elim

theorem RepCs.get : ∀ {vs : List Value} {xs : List AV}, RepCs g s vs xs → ∀ {j : Nat} {x : AV}, xs[j]? = some x → ∃ v, vs[j]? = some v ∧ v.oneCell' = true ∧ RepC g s v x
  | [], [], _, j, x, h => by simp at h
  | v :: vs, y :: xs, ⟨h, o, r⟩, 0, x, hx => by simp at hx; subst hx; exact ⟨v, rfl, o, h⟩
  | v :: vs, y :: xs, ⟨h, o, r⟩, j + 1, x, hx => by simpa using RepCs.get r (by simpa using hx)
  | [], _ :: _, h, _, _, _ => h.elim
  | _ :: _, [], h, _, _, _ => h.elim

theorem RepCs.of : ∀ {vs : List Value} {xs : List AV}, vs.length = xs.length → (∀ (j : Nat) (x : AV), xs[j]? = some x → ∃ v, vs[j]? = some v ∧ v.oneCell' = true ∧ RepC g s v x) → RepCs g s vs xs
  | [], [], _, _ => trivial
  | v :: vs, x :: xs, hl, h => by
    obtain ⟨v', h1, h2, h3⟩ := h 0 x rfl
    obtain rfl : v = v' := by simpa using h1
    exact ⟨h3, h2, RepCs.of (by simpa using hl) fun j y hy => by simpa using h (j + 1) y (by simpa using hy)⟩
  | [], _ :: _, hl, _ => by simp at hl
  | _ :: _, [], hl, _ => by simp at hl

theorem RepCs.append : ∀ {vs vs' : List Value} {xs xs' : List AV}, RepCs g s vs xs → RepCs g s vs' xs' → RepCs g s (vs ++ vs') (xs ++ xs')
  | [], _, [], _, _, h => h
  | _ :: _, _, _ :: _, _, ⟨a, b, c⟩, h => ⟨a, b, RepCs.append c h⟩
  | [], _, _ :: _, _, h, _ => h.elim
  | _ :: _, _, [], _, h, _ => h.elim

theorem RepCs.take {vs : List Value} {xs : List AV} (h : RepCs g s vs xs) (n : Nat) : RepCs g s (vs.take n) (xs.take n) :=
  RepCs.of (by simp [h.length]) fun j x hx => by
    rw [List.getElem?_take] at hx ⊢
    split at hx
    · rename_i hn; simpa [hn] using h.get hx
    · cases hx

theorem RepCs.drop {vs : List Value} {xs : List AV} (h : RepCs g s vs xs) (n : Nat) : RepCs g s (vs.drop n) (xs.drop n) :=
  RepCs.of (by simp [h.length]) fun j x hx => by
    rw [List.getElem?_drop] at hx ⊢
    exact h.get hx

theorem RepCs.vs : ∀ {vs : List Value} {xs : List PV}, RepCs g s vs (xs.map .p) → RepVs g.fz vs xs
  | [], [], _ => .nil
  | v :: vs, x :: xs, ⟨h, o, r⟩ => .cons v x vs xs h o (RepCs.vs r)
  | [], _ :: _, h => h.elim
  | _ :: _, [], h => h.elim

/-- A value's cells. -/
theorem RepA.cells {v : Value} {x : AV} (h : RepA g s v x) (hv : vok x = true) : RepCs g s v.cells.toList x.cells := by
  cases x with
  | p x =>
    have h' : RepP g.fz v x := h
    cases x with
    | agg cs => cases h' with | agg vs _ hc => simpa [AV.cells, Value.cells] using hc.cs rfl
    | tup cs => simp [vok] at hv
    | _ =>
      have h1 := RepP.oneCell h' (by simp) (by simp)
      have : v.cells.toList = [v] := by cases v <;> simp_all [Value.cells, Value.oneCell']
      rw [this]; exact ⟨h, h1, trivial⟩
  | e0 z =>
    obtain ⟨b, rfl, hb⟩ := h
    exact ⟨⟨b, rfl, hb⟩, rfl, trivial⟩
  | mp k ver i o =>
    have h1 : v.oneCell' = true := by obtain ⟨⟨_, rfl⟩, _⟩ := h; rfl
    have : v.cells.toList = [v] := by cases v <;> simp_all [Value.cells, Value.oneCell']
    rw [this]; exact ⟨h, h1, trivial⟩
  | ms k ver o n z =>
    have h1 : v.oneCell' = true := by obtain ⟨⟨_, _, rfl⟩, _⟩ := h; rfl
    have : v.cells.toList = [v] := by cases v <;> simp_all [Value.cells, Value.oneCell']
    rw [this]; exact ⟨h, h1, trivial⟩
  | ag cs => obtain ⟨vs, rfl, hc⟩ := h; simpa [AV.cells, Value.cells] using hc
  | tu vs => simp [vok] at hv
  | cl f a c => simp [vok] at hv
  | un => simp [vok] at hv

theorem RepC.toA {v : Value} {x : AV} (h : RepC g s v x) : RepA g s v x := by
  cases x with
  | ag cs => exact h.elim
  | tu cs => exact h.elim
  | cl f a c => exact h.elim
  | _ => exact h

/-- Cells as one value. -/
theorem ofCells_agg {vs : List Value} {xs : List AV} (h : RepCs g s vs xs) : RepA g s (.agg vs.toArray) (ofCells true xs) := by
  simp only [ofCells]
  split
  · rename_i ps hp
    have := plainAll_eq hp
    subst this
    exact RepP.agg vs ps h.vs
  · exact ⟨vs, rfl, h⟩

theorem ofCells_one {v : Value} {xs : List AV} (h : RepCs g s [v] xs) : RepA g s v (ofCells false xs) := by
  match xs, h with
  | [x], h => exact h.1.toA
  | [], h => exact h.elim
  | _ :: _ :: _, h => exact h.2.2.elim

theorem ofCells_rep {vs : List Value} {xs : List AV} (agg : Bool) (h : RepCs g s vs xs) : (agg = true → RepA g s (.agg vs.toArray) (ofCells agg xs)) ∧ (agg = false → ∀ v, vs = [v] → RepA g s v (ofCells agg xs)) :=
  ⟨fun e => by subst e; exact ofCells_agg h, fun e v hv => by subst e; subst hv; exact ofCells_one h⟩

theorem pvOf_rep {fz : Fz} {v : Value} {x : PV} (h : pvOf v = some x) : RepP fz v x ∧ v.oneCell' = true ∧ x.cells = [x] := by
  unfold pvOf at h
  split at h
  · simp at h; subst h; exact ⟨.bool _, rfl, rfl⟩
  · simp at h; subst h; exact ⟨.int _ _, rfl, rfl⟩
  · rw [tx_toNats] at h; simp at h; subst h; exact ⟨.str _, rfl, rfl⟩
  · simp at h; subst h; exact ⟨.nilp, rfl, rfl⟩
  · simp at h; subst h; exact ⟨.nls, rfl, rfl⟩
  · rename_i f a c
    split at h
    · rename_i hh
      simp at h; subst h
      obtain rfl : a = #[] := Array.eq_empty_of_size_eq_zero hh.2.1
      obtain rfl : c = #[] := Array.eq_empty_of_size_eq_zero hh.2.2
      have := RepP.fn (fz := fz) f [] [] [] [] .nil .nil
      rw [Nat.mod_eq_of_lt hh.1] at this
      exact ⟨this, rfl, rfl⟩
    · cases h
  · simp at h; subst h; exact ⟨.nilf, rfl, rfl⟩
  · cases h

theorem pvAll_rep {fz : Fz} : ∀ {vs : List Value} {xs : List PV}, pvAll vs = some xs → RepVs fz vs xs
  | [], xs, h => by simp [pvAll] at h; subst h; exact .nil
  | v :: vs, xs, h => by
    simp only [pvAll] at h
    split at h
    · rename_i x ys h1 h2
      simp at h; subst h
      have := pvOf_rep (fz := fz) h1
      exact .cons v x vs ys this.1 this.2.1 (pvAll_rep h2)
    · cases h

theorem zeroOf_rep {P : Program} {fz : Fz} {t : TypeId} {zs : List PV} (h : zeroOf P t = some zs) : ∃ i z, P.info? t = some i ∧ i.zero = some z ∧ RepVs fz z.cells.toList zs := by
  unfold zeroOf at h
  split at h
  · rename_i i hi
    split at h
    · rename_i z hz
      exact ⟨i, z, hi, hz, pvAll_rep h⟩
    · cases h
  · cases h

theorem zeroEl_rep {P : Program} {t : TypeId} {el : PV} (h : zeroEl P t = some el) : ∃ i z, P.info? t = some i ∧ i.zero = some z ∧ RepCs g s z.cells.toList (AV.p el).cells ∧ vok (.p el) = true ∧ z.cells.size = P.cellsOf t := by
  unfold zeroEl at h
  split at h
  · rename_i zs hz
    obtain ⟨i, z, h1, h2, h3⟩ := zeroOf_rep (fz := g.fz) hz
    have hlen := h3.length
    split at h
    · rename_i hzl
      have hsz : z.cells.size = P.cellsOf t := by rw [← hzl, ← hlen]; simp
      split at h
      · simp at h; subst h
        exact ⟨i, z, h1, h2, h3.cs rfl, rfl, hsz⟩
      · split at h
        · rename_i x
          simp at h; subst h
          obtain ⟨v, hv⟩ : ∃ v, z.cells.toList = [v] := by
            match h4 : z.cells.toList, hlen with
            | [v], _ => exact ⟨v, rfl⟩
          rw [hv] at h3
          cases h3 with | cons _ _ _ _ hp ho _ =>
          have hcl : (AV.p x).cells = [.p x] := by
            cases x with
            | agg cs => cases hp; simp [Value.oneCell'] at ho
            | _ => rfl
          have hvk : vok (.p x) = true := by
            cases x with
            | tup cs => cases hp; simp [Value.oneCell'] at ho
            | _ => rfl
          refine ⟨i, z, h1, h2, ?_, hvk, hsz⟩
          rw [hv, hcl]
          exact ⟨hp, ho, trivial⟩
        · cases h
    · cases h
  · cases h

end

/-! ### Memory -/
section
variable {P : Program} {w0 : World} {S : Nat → Prop} {fz0 : Fz} {g : G} {s : Nat → K} {w : World}

theorem add_lit (b o i : Nat) : (⟨b, o, none⟩ : Addr).add i = ⟨b, o + i, none⟩ := by unfold Addr.add; split <;> simp_all

theorem loadCells_run {b o : Nat} (vs : List Value) (hc : ∀ j v, vs[j]? = some v → w.cell? ⟨b, o + j, none⟩ = some v) : (loadCells ⟨b, o, none⟩ vs.length).run P w = .ok vs.toArray w :=
  run_loadCells_list w ⟨b, o, none⟩ vs fun j v hv => by rw [add_lit]; exact hc j v hv

theorem underlying_of_okT {t : TypeId} (h : okT P t = true) : (∃ i, P.info? t = some i) ∧ ∃ d, P.underlying t = some d := by
  simp only [okT, Bool.and_eq_true] at h
  exact ⟨Option.isSome_iff_exists.1 h.1, Option.isSome_iff_exists.1 h.2⟩

theorem isAgg_run {t : TypeId} (h : okT P t = true) : (isAgg t).run P w = .ok (isAggT P t) w := by
  obtain ⟨_, d, hd⟩ := underlying_of_okT h
  simp only [isAgg, Sem.run_bind, run_underlying hd, Result.andThen_ok, isAggT, hd]
  cases d <;> rfl

theorem sizeOf_run {t : TypeId} (h : okT P t = true) : (sizeOf t).run P w = .ok (P.cellsOf t) w := by
  obtain ⟨⟨i, hi⟩, _⟩ := underlying_of_okT h
  simp [sizeOf, typeInfo, hi, Program.cellsOf]

theorem loadVar_agg {t : TypeId} (hok : okT P t = true) (ha : isAggT P t = true) {b o : Nat} (vs : List Value) (hl : vs.length = P.cellsOf t) (hc : ∀ j v, vs[j]? = some v → w.cell? ⟨b, o + j, none⟩ = some v) :
    (loadVar t ⟨b, o, none⟩).run P w = .ok (.agg vs.toArray) w := by
  simp only [loadVar, Sem.run_bind, isAgg_run hok, Result.andThen_ok, ha, if_true, sizeOf_run hok, ← hl, loadCells_run vs hc, Sem.run_pure]

theorem loadVar_one {t : TypeId} (hok : okT P t = true) (ha : isAggT P t = false) {b o : Nat} (v : Value) (hc : w.cell? ⟨b, o, none⟩ = some v) :
    (loadVar t ⟨b, o, none⟩).run P w = .ok v w := by
  simp only [loadVar, Sem.run_bind, isAgg_run hok, Result.andThen_ok, ha, Bool.false_eq_true, if_false, run_load, hc]

/-- The cells of an element of a box, as they lie. -/
theorem box_cells (h : Inv w0 S fz0 g s w) {k : Nat} {els : List AV} {p : Pl} (hk : (s k).2 = some els) (hp : g.bk k = some p) {i : Nat} {el : AV} (hi : els[i]? = some el) :
    ∃ vs : List Value, RepCs g s vs el.cells ∧ ∀ j v, vs[j]? = some v → w.cell? ⟨p.b, p.base + i * p.z + j, none⟩ = some v := by
  rcases h.box k els hk with ⟨hx, hy⟩ | ⟨q, hq, c, t, hb, hc, hsz, hels⟩
  · rw [hp] at hy; cases hy
  · rw [hp] at hq; cases hq
    obtain ⟨_, hl, hcell⟩ := hels i el hi
    refine ⟨(c.toList.drop (p.base + i * p.z)).take p.z, RepCs.of ?_ fun j x hx => ?_, fun j v hv => ?_⟩
    · have hi' : i < els.length := (List.getElem?_eq_some_iff.1 hi).1
      have h1 : (i + 1) * p.z ≤ els.length * p.z := Nat.mul_le_mul_right _ hi'
      rw [Nat.add_mul, Nat.one_mul] at h1
      simp [hl, hc]; omega
    · obtain ⟨v, h1, h2, h3⟩ := hcell j x hx
      have hj : j < p.z := by rw [← hl]; exact (List.getElem?_eq_some_iff.1 hx).1
      refine ⟨v, ?_, h2, h3⟩
      rw [List.getElem?_take, if_pos hj, List.getElem?_drop]
      simpa using h1
    · rw [List.getElem?_take] at hv
      split at hv
      · rw [List.getElem?_drop] at hv
        simpa [World.cell?, hb] using hv
      · cases hv

theorem fp_cells {fz : Fz} (hz : ∀ b o v, fz b o = some v → w.cell? ⟨b, o, none⟩ = some v) {b : Nat} : ∀ {o : Nat} {cs : List PV}, RepCells fz b o cs → ∃ vs : List Value, RepVs fz vs cs ∧ ∀ j v, vs[j]? = some v → w.cell? ⟨b, o + j, none⟩ = some v
  | _, _, .nil b o => ⟨[], .nil, fun j v h => by simp at h⟩
  | _, _, .cons b o v x xs h1 h2 h3 r => by
    obtain ⟨vs, h4, h5⟩ := fp_cells hz r
    refine ⟨v :: vs, .cons v x vs xs h2 h3 h4, fun j u hu => ?_⟩
    cases j with
    | zero => simp at hu; subst hu; simpa using hz _ _ _ h1
    | succ j => have := h5 j u (by simpa using hu); rwa [Nat.add_assoc, Nat.add_comm 1 j] at this

end
end Go.Proofs.YtjlebmnlphjjoaaGreatDoor.Abs
namespace Go.Proofs.YtjlebmnlphjjoaaGreatDoor.Abs

/-- An operation that does what the abstract one says. -/
def Good (w0 : World) (S : Nat → Prop) (fz0 : Fz) (g : G) (s : Nat → K) (us : List (Nat × K)) (x : AV) (r : Result Next) : Prop :=
  ∃ nx w' g' v, r = .ok nx w' ∧ (nx = .value v ∨ (nx = .skip ∧ v = undef)) ∧ RepA g' (updAll s us) v x ∧ Inv w0 S fz0 g' (updAll s us) w' ∧ Ext g s g' (updAll s us)

section
variable {P : Program} {w0 : World} {S : Nat → Prop} {fz0 : Fz} {g : G} {s : Nat → K} {w : World}

theorem Good.pure (h : Inv w0 S fz0 g s w) {r : Result Next} {v : Value} {x : AV} (hr : r = .ok (.value v) w) (hv : RepA g s v x) : Good w0 S fz0 g s [] x r :=
  ⟨_, w, g, v, hr, .inl rfl, hv, h, Ext.refl _ _⟩

theorem val_run (m : Sem Value) (v : Value) (w' : World) (h : m.run P w = .ok v w') : (do let x ← m; Pure.pure (Next.value x) : Sem Next).run P w = .ok (.value v) w' := by
  simp [h]

theorem unit_run (m : Sem Unit) (w' : World) (h : m.run P w = .ok () w') : (do m; Pure.pure Next.skip : Sem Next).run P w = .ok .skip w' := by
  simp [h]

theorem eqGuard_int (op : BinOp) (t : TypeId) (x y : Operand) (k k' : IntKind) (a b : Int) : (eqGuard op t x y (.int k a) (.int k' b)).run P w = .ok () w := by
  cases op <;> simp [eqGuard]

theorem binInt_run {op : BinOp} {t : TypeId} {k : IntKind} {a b : Int} {x : AV} (hx : binInt op k a b = some x) : ∃ v, (binOp op t (.int k a) (.int k b)).run P w = .ok v w ∧ RepA g s v x := by
  cases op
  case add => simp only [binInt, Option.some.injEq] at hx; subst hx; exact ⟨_, by simp [binOp, Op.intArith], RepP.int _ _⟩
  case sub => simp only [binInt, Option.some.injEq] at hx; subst hx; exact ⟨_, by simp [binOp, Op.intArith], RepP.int _ _⟩
  case mul => simp only [binInt, Option.some.injEq] at hx; subst hx; exact ⟨_, by simp [binOp, Op.intArith], RepP.int _ _⟩
  case quo =>
    simp only [binInt] at hx; split at hx
    · cases hx
    · rename_i hb; simp at hx; subst hx; exact ⟨_, by simp [binOp, Op.intDiv, hb], RepP.int _ _⟩
  case rem =>
    simp only [binInt] at hx; split at hx
    · cases hx
    · rename_i hb; simp at hx; subst hx; exact ⟨_, by simp [binOp, Op.intDiv, hb], RepP.int _ _⟩
  case and => simp only [binInt, Option.some.injEq] at hx; subst hx; exact ⟨_, by simp [binOp, Op.intBits], RepP.int _ _⟩
  case or => simp only [binInt, Option.some.injEq] at hx; subst hx; exact ⟨_, by simp [binOp, Op.intBits], RepP.int _ _⟩
  case xor => simp only [binInt, Option.some.injEq] at hx; subst hx; exact ⟨_, by simp [binOp, Op.intBits], RepP.int _ _⟩
  case shl => simp [binInt] at hx
  case shr => simp [binInt] at hx
  case andNot => simp [binInt] at hx
  case eql => simp only [binInt, Option.some.injEq] at hx; subst hx; exact ⟨.bool (decide (a = b)), by simp [binOp, Op.intCmp]; by_cases h : a = b <;> simp [h], RepP.bool _⟩
  case neq => simp only [binInt, Option.some.injEq] at hx; subst hx; exact ⟨.bool (!decide (a = b)), by simp [binOp, Op.intCmp]; by_cases h : a = b <;> simp [h, bne], RepP.bool _⟩
  case lss => simp only [binInt, Option.some.injEq] at hx; subst hx; exact ⟨_, by simp [binOp, Op.intCmp], RepP.bool _⟩
  case leq => simp only [binInt, Option.some.injEq] at hx; subst hx; exact ⟨_, by simp [binOp, Op.intCmp], RepP.bool _⟩
  case gtr => simp only [binInt, Option.some.injEq] at hx; subst hx; exact ⟨.bool (decide (a > b)), by simp [binOp, Op.intCmp], RepP.bool _⟩
  case geq => simp only [binInt, Option.some.injEq] at hx; subst hx; exact ⟨.bool (decide (a ≥ b)), by simp [binOp, Op.intCmp], RepP.bool _⟩

theorem beq_bytes (a b : ByteArray) : (a.toList == b.toList) = decide (a = b) := by
  by_cases h : a = b
  · subst h; simp
  · have : a.toList ≠ b.toList := fun e => h (by
      rw [ByteArray.toList_eq, ByteArray.toList_eq] at e
      exact ByteArray.ext (Array.toList_inj.1 e))
    simp [h, this]

theorem binStr_run {op : BinOp} {t : TypeId} {a b : ByteArray} {x : AV} (hx : binStr op a b = some x) : ∃ v, (binOp op t (.string a) (.string b)).run P w = .ok v w ∧ RepA g s v x := by
  cases op <;> simp only [binStr] at hx <;> first | cases hx | skip
  case add =>
    split at hx
    · rename_i hl
      simp at hx; subst hx
      have : ¬ (9223372036854775807 < (a.size : Int) + (b.size : Int)) := by omega
      exact ⟨_, by simp [binOp, Op.stringOp, IntKind.max, IntKind.signed, IntKind.bits, this], RepP.str _⟩
    · cases hx
  case eql => exact ⟨.bool (decide (a = b)), by simp only [binOp, Op.stringOp, beq_bytes]; rfl, RepP.bool _⟩
  case neq => exact ⟨.bool (!decide (a = b)), by simp only [binOp, Op.stringOp, beq_bytes]; rfl, RepP.bool _⟩

theorem eqGuard_str (op : BinOp) (t : TypeId) (x y : Operand) (a b : ByteArray) : (eqGuard op t x y (.string a) (.string b)).run P w = .ok () w := by
  cases op <;> simp [eqGuard]

theorem eqGuard_other (op : BinOp) (t : TypeId) (x y : Operand) (a b : Value) (h1 : a ≠ .nilIface) (h2 : ∀ cs, a ≠ .agg cs) : (eqGuard op t x y a b).run P w = .ok () w := by
  cases op <;> simp only [eqGuard] <;> first | rfl | skip
  all_goals
    cases a <;> first | exact absurd rfl h1 | exact absurd rfl (h2 _) | (simp)

/-! Struct by struct. -/
theorem eqCell_run {t : TypeId} {d n : Nat} {v u : Value} {x y : PV} {fz : Fz} (ht : flatK P t = some n) (hx : RepP fz v x) (hy : RepP fz u y) {r : Bool} (hr : eqCell n x y = some r) :
    (Op.equalIn (d + 1) t v u).run P w = .ok r w := by
  unfold flatK at ht
  unfold eqCell at hr
  split at hr
  · rename_i k a k' b
    cases hx; cases hy
    split at hr
    · rename_i hkk; subst hkk
      simp at hr; subst hr
      split at ht <;> simp at ht
      rename_i hu
      rw [run_equalIn_int w d t k _ a b hu]
      by_cases h : a = b <;> simp [h]
    · cases hr
  · rename_i a b
    cases hx; cases hy
    simp at hr; subst hr
    split at ht <;> simp at ht
    rename_i hu
    rw [run_equalIn_string w d t a b hu, beq_bytes]
  · rename_i a b
    cases hx; cases hy
    simp at hr; subst hr
    split at ht <;> simp at ht
    rename_i hu
    rw [run_equalIn_bool' w d t a b hu]
  · cases hr

theorem part_run {t : TypeId} {n o : Nat} {c : Array Value} {v : Value} (ht : flatK P t = some n) (hc : c[o]? = some v) : (part t c o).run P w = .ok v w := by
  have ha : (isAgg t).run P w = .ok false w := by
    unfold flatK at ht
    split at ht <;> simp at ht <;> (rename_i hu; simp [isAgg, run_underlying hu])
  simp [part, ha, hc]

theorem eqFields_run {d : Nat} {xs ys : Array Value} {fz : Fz} : ∀ (fs : List Field) (i : Nat) (ks : List Nat) (ps qs : List PV) (r : Bool), flatKs P i fs = some ks → RepVs fz (xs.toList.drop i) ps → RepVs fz (ys.toList.drop i) qs → eqCells ks ps qs = some r →
    (Op.eqFields (d + 1) xs ys fs).run P w = .ok r w
  | [], i, ks, ps, qs, r, hk, hx, hy, hr => by
    simp [flatKs] at hk; subst hk
    cases ps <;> cases qs <;> simp [eqCells] at hr
    subst hr; simp [Op.eqFields]
  | f :: fs, i, ks, ps, qs, r, hk, hx, hy, hr => by
    simp only [flatKs] at hk
    split at hk
    · rename_i n ks' hn hks
      split at hk
      · rename_i hf
        obtain ⟨hf1, hf2⟩ := hf
        simp at hk; subst hk
        cases ps with
        | nil => cases qs <;> simp [eqCells] at hr
        | cons x ps =>
          cases qs with
          | nil => simp [eqCells] at hr
          | cons y qs =>
            generalize hxs : xs.toList.drop i = vx at hx
            generalize hys : ys.toList.drop i = vy at hy
            cases hx with | cons v _ vs _ hx1 hx2 hx3 =>
            cases hy with | cons u _ us _ hy1 hy2 hy3 =>
            have hv : xs[i]? = some v := by
              have := congrArg (fun l => l[0]?) hxs
              simpa using this
            have hu : ys[i]? = some u := by
              have := congrArg (fun l => l[0]?) hys
              simpa using this
            have hx3' : RepVs fz (xs.toList.drop (i + 1)) ps := by
              have := congrArg (fun l => l.drop 1) hxs
              simp only [List.drop_drop, List.drop_succ_cons, List.drop_zero] at this
              rw [this]; exact hx3
            have hy3' : RepVs fz (ys.toList.drop (i + 1)) qs := by
              have := congrArg (fun l => l.drop 1) hys
              simp only [List.drop_drop, List.drop_succ_cons, List.drop_zero] at this
              rw [this]; exact hy3
            simp only [eqCells] at hr
            subst hf2
            simp only [Op.eqFields, ne_eq, hf1, not_false_eq_true, if_true, Sem.run_bind, part_run hn hv, part_run hn hu, Result.andThen_ok]
            split at hr
            · rename_i hc
              rw [eqCell_run hn hx1 hy1 hc]
              simp only [Result.andThen_ok, Bool.not_true, Bool.false_eq_true, if_false]
              exact eqFields_run fs _ ks' ps qs r hks hx3' hy3' hr
            · rename_i hc
              simp at hr; subst hr
              rw [eqCell_run hn hx1 hy1 hc]
              simp
            · cases hr
      · cases hk
    · cases hk

theorem isNil_2 {b : AV} (h : isNil b = 2) : b = .p .nilp := by unfold isNil at h; split at h <;> first | rfl | omega
theorem isNil_3 {b : AV} (h : isNil b = 3) : b = .p .nls := by unfold isNil at h; split at h <;> first | rfl | omega
theorem isNil_4 {b : AV} (h : isNil b = 4) : b = .p .nilf := by unfold isNil at h; split at h <;> first | rfl | omega

theorem eql_of {t : TypeId} {v u : Value} {r : Bool} (h1 : binOp .eql t v u = (do Pure.pure (.bool (← Op.equal t v u)))) (h2 : binOp .neq t v u = (do Pure.pure (.bool (!(← Op.equal t v u))))) (h : ∀ d, (Op.equalIn (d + 1) t v u).run P w = .ok r w) :
    (binOp .eql t v u).run P w = .ok (.bool r) w ∧ (binOp .neq t v u).run P w = .ok (.bool (!r)) w := by
  have he : (Op.equal t v u).run P w = .ok r w := h 9999
  rw [h1, h2]
  exact ⟨by simp [he], by simp [he]⟩

theorem eqAV_run {t : TypeId} {x y : Operand} {v u : Value} {a b : AV} {r : Bool} (hv : RepA g s v a) (hu : RepA g s u b) {fl : List TypeId} (hfl : FlOk P fl) (hr : eqAV (eqKind P fl t) a b = some r) :
    (eqGuard .eql t x y v u).run P w = .ok () w ∧ (eqGuard .neq t x y v u).run P w = .ok () w ∧ (binOp .eql t v u).run P w = .ok (.bool r) w ∧ (binOp .neq t v u).run P w = .ok (.bool (!r)) w := by
  unfold eqKind at hr
  split at hr
  · rename_i ht
    simp only [eqAV] at hr
    unfold eqB at hr
    split at hr
    · rename_i p q
      simp at hr; subst hr
      cases hv; cases hu
      exact ⟨eqGuard_other _ _ _ _ _ _ (by simp) (by simp), eqGuard_other _ _ _ _ _ _ (by simp) (by simp), eql_of rfl rfl fun d => by simp [Op.equalIn, run_underlying ht]⟩
    · cases hr
  · rename_i e ht
    simp only [eqAV] at hr
    split at hr
    · rename_i hn
      obtain rfl := isNil_2 hn
      cases hu
      unfold eqPtr at hr
      split at hr
      · cases hv
        simp at hr; subst hr
        exact ⟨eqGuard_other _ _ _ _ _ _ (by simp) (by simp), eqGuard_other _ _ _ _ _ _ (by simp) (by simp), eql_of rfl rfl fun d => by simp [Op.equalIn, run_underlying ht]⟩
      · obtain ⟨⟨_, rfl⟩, _⟩ := hv
        simp at hr; subst hr
        exact ⟨eqGuard_other _ _ _ _ _ _ (by simp) (by simp), eqGuard_other _ _ _ _ _ _ (by simp) (by simp), eql_of rfl rfl fun d => by simp [Op.equalIn, run_underlying ht]⟩
      · cases hv
        simp at hr; subst hr
        exact ⟨eqGuard_other _ _ _ _ _ _ (by simp) (by simp), eqGuard_other _ _ _ _ _ _ (by simp) (by simp), eql_of rfl rfl fun d => by simp [Op.equalIn, run_underlying ht]⟩
      · cases hr
    · cases hr
  · rename_i e ht
    simp only [eqAV] at hr
    split at hr
    · rename_i hn
      obtain rfl := isNil_3 hn
      cases hu
      unfold eqSl at hr
      split at hr
      · cases hv
        simp at hr; subst hr
        exact ⟨eqGuard_other _ _ _ _ _ _ (by simp) (by simp), eqGuard_other _ _ _ _ _ _ (by simp) (by simp), eql_of rfl rfl fun d => by simp [Op.equalIn, run_underlying ht]⟩
      · cases hv
        simp at hr; subst hr
        exact ⟨eqGuard_other _ _ _ _ _ _ (by simp) (by simp), eqGuard_other _ _ _ _ _ _ (by simp) (by simp), eql_of rfl rfl fun d => by simp [Op.equalIn, run_underlying ht]⟩
      · cases hr
    · cases hr
  · rename_i p q z ht
    simp only [eqAV] at hr
    split at hr
    · rename_i hn
      obtain rfl := isNil_4 hn
      cases hu
      unfold eqFn at hr
      split at hr
      · cases hv
        simp at hr; subst hr
        exact ⟨eqGuard_other _ _ _ _ _ _ (by simp) (by simp), eqGuard_other _ _ _ _ _ _ (by simp) (by simp), eql_of rfl rfl fun d => by simp [Op.equalIn, run_underlying ht]⟩
      · cases hv
        simp at hr; subst hr
        exact ⟨eqGuard_other _ _ _ _ _ _ (by simp) (by simp), eqGuard_other _ _ _ _ _ _ (by simp) (by simp), eql_of rfl rfl fun d => by simp [Op.equalIn, run_underlying ht]⟩
      · obtain ⟨va, vc, rfl, _, _⟩ := hv
        simp at hr; subst hr
        exact ⟨eqGuard_other _ _ _ _ _ _ (by simp) (by simp), eqGuard_other _ _ _ _ _ _ (by simp) (by simp), eql_of rfl rfl fun d => by simp [Op.equalIn, run_underlying ht]⟩
      · cases hr
    · cases hr
  · rename_i fs ht
    split at hr
    · rename_i ks hks
      split at hr
      · rename_i hc
        have hh := hfl t (by simpa using hc)
        simp only [eqAV] at hr
        unfold eqSt at hr
        split at hr
        · rename_i xs ys
          cases hv with | agg vs _ h1 =>
          cases hu with | agg us _ h2 =>
          have hf : P.fieldsOf t = fs := by simp [Program.fieldsOf, ht]
          have ht' : P.underlying t = some (.struct (P.fieldsOf t)) := by rw [hf]; exact ht
          have he : (Op.equalIn 10000 t (.agg vs.toArray) (.agg us.toArray)).run P w = .ok r w := by
            rw [run_equalIn_agg w 9999 t _ _ ht' hh.1, hf]
            exact eqFields_run fs.toList 0 ks xs ys r hks (by simpa using h1) (by simpa using h2) hr
          refine ⟨run_eqGuard_agg w _ t x y _ _ hh.2, run_eqGuard_agg w _ t x y _ _ hh.2, ?_, ?_⟩
          · rw [run_eql_struct, he]; rfl
          · rw [run_neq_struct, he]; rfl
        · cases hr
      · simp [eqAV] at hr
    · simp [eqAV] at hr
  · simp [eqAV] at hr

end
end Go.Proofs.YtjlebmnlphjjoaaGreatDoor.Abs
namespace Go.Proofs.YtjlebmnlphjjoaaGreatDoor.Abs

section
variable {P : Program} {w0 : World} {S : Nat → Prop} {fz0 : Fz} {g : G} {s : Nat → K} {w : World} {E : Env} {C : CFT} {d : Nat} {gf : Opd → AV}

theorem ok_of_load {t : TypeId} (hok : okT P t = true) {b o : Nat} {vs : List Value} {xs : List AV} (hr : RepCs g s vs xs) (hl : xs.length = P.cellsOf t)
    (hc : ∀ j v, vs[j]? = some v → w.cell? ⟨b, o + j, none⟩ = some v) (h1 : isAggT P t = false → ∃ x, xs = [x]) :
    ∃ u, (loadVar t ⟨b, o, none⟩).run P w = .ok u w ∧ RepA g s u (ofCells (isAggT P t) xs) := by
  cases ha : isAggT P t with
  | true => exact ⟨_, loadVar_agg hok ha vs (hr.length.trans hl) hc, ofCells_agg hr⟩
  | false =>
    obtain ⟨x, rfl⟩ := h1 ha
    obtain ⟨v, rfl⟩ : ∃ v, vs = [v] := by
      have := hr.length
      match vs, this with
      | [v], _ => exact ⟨v, rfl⟩
    exact ⟨v, loadVar_one hok ha v (by simpa using hc 0 v rfl), ofCells_one hr⟩

theorem load_run (h : Inv w0 S fz0 g s w) {t : TypeId} (hok : okT P t = true) {x : Opd} {v : Value} (hv : RepA g s v (gf x)) {r : AV} {us : List (Nat × K)}
    (hs : sem E C d (.load (isAggT P t) (P.cellsOf t) x) gf s = some (r, us)) : us = [] ∧ ∃ u, (Instr.loadAt t v).run P w = .ok u w ∧ (RepA g s u r) := by
  simp only [sem] at hs
  split at hs
  · rename_i k ver i o hg
    rw [hg] at hv
    obtain ⟨_, _, h2⟩ := hv
    simp only [lk] at hs
    split at hs
    · rename_i els hels
      split at hels
      · rename_i hver
        obtain ⟨p, hp, rfl⟩ := h2 hver
        split at hs
        · rename_i el hel
          split at hs
          · rename_i hlen
            simp at hs; obtain ⟨rfl, rfl⟩ := hs
            refine ⟨rfl, ?_⟩
            obtain ⟨vs, hr, hc⟩ := box_cells h hels hp hel
            have hr' := (hr.drop o).take (P.cellsOf t)
            have hl : ((el.cells.drop o).take (P.cellsOf t)).length = P.cellsOf t := by simp; omega
            simp only [Instr.loadAt, Instr.sureAddr, Sem.run_bind, Sem.run_pure, Result.andThen_ok]
            obtain ⟨hlen, h1⟩ := hlen
            exact ok_of_load hok (b := p.b) (o := p.base + i * p.z + o) (w := w) hr' hl (fun j v hv => by
              rw [List.getElem?_take] at hv
              split at hv
              · rw [List.getElem?_drop] at hv
                have := hc _ v hv
                rwa [← Nat.add_assoc] at this
              · cases hv) fun ha => by
                rw [ha] at h1
                have h1' : P.cellsOf t = 1 := by simpa using h1
                rw [h1'] at hl ⊢
                match hm : (el.cells.drop o).take 1, hl with
                | [x], _ => exact ⟨x, rfl⟩
          · cases hs
        · cases hs
      · cases hels
    · cases hs
  · rename_i cs o hg
    rw [hg] at hv
    split at hs
    · rename_i y hy
      split at hs
      · rename_i hlen
        simp at hs; obtain ⟨rfl, rfl⟩ := hs
        refine ⟨rfl, ?_⟩
        cases hv with | fp b o' _ _ hcs =>
        obtain ⟨vs, hr, hc⟩ := fp_cells h.fzok hcs
        have hr' := ((hr.cs (g := g) (s := s) rfl).drop o).take (P.cellsOf t)
        have hl : (((cs.map AV.p).drop o).take (P.cellsOf t)).length = P.cellsOf t := by simp; omega
        have hmap : ((cs.map AV.p).drop o).take (P.cellsOf t) = (((cs.drop o).take (P.cellsOf t)).map .p) := by simp
        simp only [Instr.loadAt, Instr.sureAddr, Sem.run_bind, Sem.run_pure, Result.andThen_ok]
        have hc' : ∀ j v, ((vs.drop o).take (P.cellsOf t))[j]? = some v → w.cell? ⟨b, o' + o + j, none⟩ = some v := fun j v hv => by
          rw [List.getElem?_take] at hv
          split at hv
          · rw [List.getElem?_drop] at hv
            have := hc _ v hv
            rwa [← Nat.add_assoc] at this
          · cases hv
        unfold pcells at hy
        cases ha : isAggT P t with
        | true =>
          rw [ha] at hy; simp at hy; subst hy
          refine ⟨_, loadVar_agg hok ha _ (hr'.length.trans hl) hc', ?_⟩
          rw [hmap] at hr'
          exact RepP.agg _ _ hr'.vs
        | false =>
          rw [ha] at hy; simp only at hy
          split at hy
          · rename_i x hx
            simp at hy; subst hy
            rw [hmap, hx] at hr'
            obtain ⟨v, hv⟩ : ∃ v, (vs.drop o).take (P.cellsOf t) = [v] := by
              have := hr'.length
              match h4 : (vs.drop o).take (P.cellsOf t), this with
              | [v], _ => exact ⟨v, rfl⟩
            rw [hv] at hr' hc'
            exact ⟨v, loadVar_one hok ha v (by simpa using hc' 0 v rfl), hr'.1⟩
          · cases hy
      · cases hs
    · cases hs
  · cases hs

theorem seg_get (c : Array Value) (q : Nat) (vs : List Value) (hq : q + vs.length ≤ c.size) (pos : Nat) :
    ((c.toList.take q ++ vs ++ c.toList.drop (q + vs.length)).toArray)[pos]? = if pos < q then c[pos]? else if pos < q + vs.length then vs[pos - q]? else c[pos]? := by
  have hl : (c.toList.take q).length = q := by simp; omega
  simp only [List.getElem?_toArray, List.append_assoc]
  by_cases h1 : pos < q
  · rw [List.getElem?_append_left (by omega), if_pos h1, List.getElem?_take, if_pos h1]; simp
  · rw [List.getElem?_append_right (by omega), if_neg h1, hl]
    by_cases h2 : pos < q + vs.length
    · rw [List.getElem?_append_left (by omega), if_pos h2]
    · rw [List.getElem?_append_right (by omega), if_neg h2, List.getElem?_drop]
      have : q + vs.length + (pos - q - vs.length) = pos := by omega
      rw [this]; simp

/-- Cells of a box are written. -/
theorem Inv.seg (h : Inv w0 S fz0 g s w) {k : Nat} {els els' : List AV} {p : Pl} {ver : Nat} (hk : (s k).2 = some els) (hp : g.bk k = some p)
    (hver : (ver = (s k).1 ∧ els'.length = els.length) ∨ ver = (s k).1 + 1) (q : Nat) (vs : List Value) (h1 : ∀ v ∈ vs, v.oneCell' = true) (hq : q + vs.length ≤ p.c) (hsz : p.base + els'.length * p.z ≤ p.c)
    (hels : ∀ i el, els'[i]? = some el → vok el = true ∧ el.cells.length = p.z ∧ ∀ j x, el.cells[j]? = some x →
      (q ≤ p.base + i * p.z + j ∧ ∃ v, vs[p.base + i * p.z + j - q]? = some v ∧ RepC g s v x) ∨
      ((p.base + i * p.z + j < q ∨ q + vs.length ≤ p.base + i * p.z + j) ∧ ∃ el0, els[i]? = some el0 ∧ el0.cells[j]? = some x)) :
    ∃ w', (storeCells ⟨p.b, q, none⟩ vs).run P w = .ok () w' ∧ Inv w0 S fz0 g (upd s k (ver, some els')) w' ∧ Ext g s g (upd s k (ver, some els')) := by
  rcases h.box k els hk with ⟨hx, hy⟩ | ⟨p', hp', c, t, hb, hc, hsz0, hels0⟩
  · rw [hp] at hy; cases hy
  · rw [hp] at hp'; cases hp'
    have hrun := run_storeCells_at P p.b q t vs 0 c w hb (by rw [hc]; simpa using hq) h1
    simp only [Nat.add_zero] at hrun
    refine ⟨_, hrun, ?_⟩
    refine h.write (w' := w.setRow p.b _) ⟨rfl, rfl, rfl, Nat.le_refl _⟩ k els els' p ver _ t hk hp hver (setRow_heap w p.b c _ t _ hb) (fun b hne => setRow_other w p.b b _ hne) (by simp) ?_ hsz fun i el hi => ?_
    · rw [← hc] at hq ⊢; simp; omega
    · obtain ⟨a, b, hcell⟩ := hels i el hi
      refine ⟨a, b, fun j x hx => ?_⟩
      rw [seg_get c q vs (by rw [hc]; exact hq)]
      rcases hcell j x hx with ⟨h2, v, h3, h4⟩ | ⟨h2, el0, h3, h4⟩
      · have hlt : p.base + i * p.z + j - q < vs.length := (List.getElem?_eq_some_iff.1 h3).1
        rw [if_neg (by omega), if_pos (by omega)]
        exact ⟨v, h3, h1 v (List.mem_of_getElem? h3), h4⟩
      · obtain ⟨_, _, h5⟩ := hels0 i el0 h3
        obtain ⟨v, h6, h7, h8⟩ := h5 j x h4
        refine ⟨v, ?_, h7, h8⟩
        rcases h2 with h2 | h2
        · rw [if_pos h2]; exact h6
        · rw [if_neg (by omega), if_neg (by omega)]; exact h6

theorem cells_cell {v : Value} {x : AV} (h : RepC g s v x) (ho : v.oneCell' = true) : x.cells = [x] := by
  cases x with
  | p x =>
    cases x with
    | agg cs => cases h; simp [Value.oneCell'] at ho
    | _ => rfl
  | ag cs => exact h.elim
  | _ => rfl

theorem ofCells_cells {vs : List Value} {xs : List AV} (_ : RepCs g s vs xs) : (ofCells true xs).cells = xs := by
  simp only [ofCells]
  split
  · rename_i ps hp
    rw [plainAll_eq hp]; rfl
  · rfl

theorem vok_ofCells (xs : List AV) : vok (ofCells true xs) = true := by
  simp only [ofCells]
  split <;> rfl

theorem setEl_cells {el el' : AV} {o : Nat} {us : List Value} {xs : List AV} (hr : RepCs g s us xs) {vs0 : List Value} (h0 : RepCs g s vs0 el.cells) (h : setEl el o xs = some el') :
    o + xs.length ≤ el.cells.length ∧ el'.cells = el.cells.take o ++ xs ++ el.cells.drop (o + xs.length) ∧ vok el' = true := by
  unfold setEl at h
  split at h
  · rename_i cs
    split at h
    · rename_i hl
      simp only [Option.some.injEq] at h; subst h
      have hl' : o + xs.length ≤ ((AV.p (.agg cs)).cells).length := by simpa [AV.cells] using hl
      refine ⟨hl', ?_, vok_ofCells _⟩
      exact ofCells_cells (((h0.take o).append hr).append (h0.drop (o + xs.length)))
    · cases h
  · rename_i cs
    split at h
    · rename_i hl
      simp only [Option.some.injEq] at h; subst h
      refine ⟨hl, ?_, vok_ofCells _⟩
      exact ofCells_cells (((h0.take o).append hr).append (h0.drop (o + xs.length)))
    · cases h
  · rename_i h1 h2
    split at h
    · rename_i x
      split at h
      · rename_i hv
        simp at h; subst h
        obtain ⟨v, hv1, hv2, hv3⟩ := hr.get (j := 0) rfl
        have hc := cells_cell hv3 hv2
        have hel : el.cells.length = 1 := by
          cases el with
          | p y =>
            cases y with
            | agg cs => exact absurd rfl (h1 cs)
            | _ => rfl
          | ag cs => exact absurd rfl (h2 cs)
          | _ => rfl
        refine ⟨by simp [hel], ?_, hv⟩
        rw [hc]
        obtain ⟨a, ha⟩ := List.length_eq_one_iff.1 hel
        rw [ha]; simp
      · cases h
    · cases h

theorem store_run (h : Inv w0 S fz0 g s w) {t : TypeId} (hok : okT P t = true) {x y : Opd} {v u : Value} (hv : RepA g s v (gf x)) (hu : RepA g s u (gf y)) {r : AV} {us : List (Nat × K)}
    (hs : sem E C d (.store (P.cellsOf t) x y) gf s = some (r, us)) : r = .un ∧ ∃ w', (Instr.storeAt t v u).run P w = .ok () w' ∧ Inv w0 S fz0 g (updAll s us) w' ∧ Ext g s g (updAll s us) := by
  simp only [sem] at hs
  split at hs
  · rename_i k ver i o hg
    rw [hg] at hv
    obtain ⟨_, _, h2⟩ := hv
    simp only [lk] at hs
    split at hs
    · rename_i els hels
      split at hels
      · rename_i hver
        obtain ⟨p, hp, rfl⟩ := h2 hver
        split at hs
        · rename_i el hel
          split at hs
          · rename_i hl
            split at hs
            · rename_i el' hel'
              simp at hs; obtain ⟨rfl, rfl⟩ := hs
              refine ⟨rfl, ?_⟩
              have hc := hu.cells hl.2
              obtain ⟨vs0, h0, _⟩ := box_cells h hels hp hel
              obtain ⟨ho, hcells, hvok⟩ := setEl_cells hc h0 hel'
              have hz := boxCellsLen h hels hp hel
              have hi : i < els.length := (List.getElem?_eq_some_iff.1 hel).1
              have hsz : p.base + els.length * p.z ≤ p.c := by
                rcases h.box k els hels with ⟨hx, hy⟩ | ⟨p', hp', c, t', hb, hc', hsz0, hels0⟩
                · rw [hp] at hy; cases hy
                · rw [hp] at hp'; cases hp'; exact hsz0
              have hiz : (i + 1) * p.z ≤ els.length * p.z := Nat.mul_le_mul_right _ hi
              rw [Nat.add_mul, Nat.one_mul] at hiz
              have hvl : u.cells.toList.length = (gf y).cells.length := hc.length
              have hsize : u.cells.size = P.cellsOf t := by rw [← hl.1, ← hvl]; simp
              obtain ⟨w', hrun, hI, hE⟩ := h.seg (P := P) (els' := els.set i el') (ver := (s k).1) hels hp (.inl ⟨rfl, by simp⟩) (p.base + i * p.z + o) u.cells.toList
                (fun v hv => by
                  obtain ⟨j, hj⟩ := List.getElem?_of_mem hv
                  have hj' : j < (gf y).cells.length := by rw [← hvl]; exact (List.getElem?_eq_some_iff.1 hj).1
                  obtain ⟨v', h1, h2, _⟩ := hc.get (List.getElem?_eq_getElem hj')
                  rw [hj] at h1; simp at h1; subst h1; exact h2)
                (by rw [hvl]; omega) (by simpa using hsz)
                (fun i' el2 hi' => by
                  rw [List.getElem?_set] at hi'
                  split at hi'
                  · rename_i he; subst he
                    obtain rfl : el' = el2 := Option.some.inj hi'
                    · refine ⟨hvok, by rw [hcells]; simp; omega, fun j x hx => ?_⟩
                      rw [hcells] at hx
                      have htl : (el.cells.take o).length = o := by simp; omega
                      by_cases hj1 : j < o
                      · refine .inr ⟨.inl (by omega), el, hel, ?_⟩
                        rw [List.append_assoc, List.getElem?_append_left (by omega), List.getElem?_take, if_pos hj1] at hx
                        exact hx
                      · by_cases hj2 : j < o + (gf y).cells.length
                        · refine .inl ⟨by omega, ?_⟩
                          rw [List.append_assoc, List.getElem?_append_right (by omega), htl, List.getElem?_append_left (by omega)] at hx
                          obtain ⟨v', h1, h2, h3⟩ := hc.get hx
                          refine ⟨v', ?_, h3⟩
                          have : p.base + i * p.z + j - (p.base + i * p.z + o) = j - o := by omega
                          rw [this]; exact h1
                        · refine .inr ⟨.inr (by rw [hvl]; omega), el, hel, ?_⟩
                          rw [List.append_assoc, List.getElem?_append_right (by omega), htl, List.getElem?_append_right (by omega), List.getElem?_drop] at hx
                          have : o + (gf y).cells.length + (j - o - (gf y).cells.length) = j := by omega
                          rwa [this] at hx
                  · rename_i hne
                    have hz' := boxCellsLen h hels hp hi'
                    obtain ⟨vs1, hv1, _⟩ := box_cells h hels hp hi'
                    have hvk : vok el2 = true := by
                      rcases h.box k els hels with ⟨hx, hy⟩ | ⟨p', hp', c, t', hb, hc', hsz0, hels0⟩
                      · rw [hp] at hy; cases hy
                      · exact (hels0 i' el2 hi').1
                    refine ⟨hvk, hz', fun j x hx => .inr ⟨?_, el2, hi', hx⟩⟩
                    have hj : j < p.z := by rw [← hz']; exact (List.getElem?_eq_some_iff.1 hx).1
                    rcases Nat.lt_or_gt_of_ne hne with hlt | hlt
                    · right
                      have : (i + 1) * p.z ≤ i' * p.z := Nat.mul_le_mul_right _ hlt
                      rw [Nat.add_mul, Nat.one_mul] at this
                      rw [hvl]; omega
                    · left
                      have : (i' + 1) * p.z ≤ i * p.z := Nat.mul_le_mul_right _ hlt
                      rw [Nat.add_mul, Nat.one_mul] at this
                      omega)
              refine ⟨w', ?_, ?_⟩
              · simp only [Instr.storeAt, Instr.sureAddr, Sem.run_bind, Sem.run_pure, Result.andThen_ok, storeVar, sizeOf_run hok, hsize, ne_eq, not_true_eq_false, if_false]
                exact hrun
              · simpa [updAll] using ⟨hI, hE⟩
            · cases hs
          · cases hs
        · cases hs
      · cases hels
    · cases hs
  · cases hs

end
end Go.Proofs.YtjlebmnlphjjoaaGreatDoor.Abs
namespace Go.Proofs.YtjlebmnlphjjoaaGreatDoor.Abs

section
variable {P : Program} {w0 : World} {S : Nat → Prop} {fz0 : Fz} {g : G} {s : Nat → K} {w w' : World} {E : Env} {C : CFT} {d : Nat} {gf : Opd → AV}

/-- The cells of elements, one behind the other. -/
def flat (els : List AV) : List AV := els.flatMap AV.cells

theorem flat_get {z : Nat} : ∀ {els : List AV}, (∀ el ∈ els, el.cells.length = z) → ∀ {i : Nat} {el : AV}, els[i]? = some el → ∀ {j : Nat} {x : AV}, el.cells[j]? = some x → (flat els)[i * z + j]? = some x
  | [], _, i, el, h, _, _, _ => by simp at h
  | e :: r, hz, 0, el, h, j, x, hx => by
    simp at h; subst h
    have hl : e.cells.length = z := hz e (by simp)
    have hj : j < e.cells.length := (List.getElem?_eq_some_iff.1 hx).1
    simp only [flat, List.flatMap_cons, Nat.zero_mul, Nat.zero_add]
    rw [List.getElem?_append_left hj]; exact hx
  | e :: r, hz, i + 1, el, h, j, x, hx => by
    have hl : e.cells.length = z := hz e (by simp)
    have ih := flat_get (els := r) (z := z) (fun a ha => hz a (by simp [ha])) (i := i) (el := el) (by simpa using h) hx
    simp only [flat, List.flatMap_cons] at ih ⊢
    rw [List.getElem?_append_right (by rw [hl, Nat.add_mul, Nat.one_mul]; omega), hl]
    have : (i + 1) * z + j - z = i * z + j := by rw [Nat.add_mul, Nat.one_mul]; omega
    rw [this]; exact ih

theorem flat_length {z : Nat} : ∀ {els : List AV}, (∀ el ∈ els, el.cells.length = z) → (flat els).length = els.length * z
  | [], _ => by simp [flat]
  | e :: r, hz => by
    have ih := flat_length (els := r) (z := z) (fun a ha => hz a (by simp [ha]))
    have hl : e.cells.length = z := hz e (by simp)
    simp only [flat, List.flatMap_cons, List.length_append, List.length_cons] at ih ⊢
    rw [ih, hl, Nat.add_mul, Nat.one_mul]; omega

/-- A new block with a box over it. -/
theorem newBox (h : Inv w0 S fz0 g s w) (ha : Alike w w') (d : Nat) (els : List AV) (cs : Array Value) (t : TypeId) (z : Nat) (hh : w'.heap = w.heap.push (.cells cs t (0, 0)))
    (hz : ∀ el ∈ els, el.cells.length = z) (hv : ∀ el ∈ els, vok el = true) (vs : List Value) (hr : RepCs g s vs (flat els)) (hcs : ∀ (j : Nat) (v : Value), vs[j]? = some v → cs[j]? = some v) (hsz : els.length * z ≤ cs.size) :
    Inv w0 S fz0 { g with bk := upd g.bk d (some ⟨w.heap.size, 0, z, cs.size⟩) } (upd s d ((s d).1 + 1, some els)) w' ∧
    Ext g s { g with bk := upd g.bk d (some ⟨w.heap.size, 0, z, cs.size⟩) } (upd s d ((s d).1 + 1, some els)) ∧
    RepA { g with bk := upd g.bk d (some ⟨w.heap.size, 0, z, cs.size⟩) } (upd s d ((s d).1 + 1, some els)) (.pointer (some ⟨w.heap.size, 0, none⟩)) (.mp d ((s d).1 + 1) 0 0) ∧
    ∀ cap, els.length ≤ cap → cap * z ≤ cs.size → RepA { g with bk := upd g.bk d (some ⟨w.heap.size, 0, z, cs.size⟩) } (upd s d ((s d).1 + 1, some els)) (.slice (some ⟨w.heap.size, 0, none⟩) els.length cap) (.ms d ((s d).1 + 1) 0 els.length z) := by
  obtain ⟨hI, hE⟩ := h.alloc ha d els cs t z hh hsz fun i el hi => ⟨hv el (List.mem_of_getElem? hi), hz el (List.mem_of_getElem? hi), fun j x hx => by
    obtain ⟨v, h1, h2, h3⟩ := hr.get (flat_get hz hi hx)
    exact ⟨v, hcs _ v h1, h2, h3⟩⟩
  refine ⟨hI, hE, ⟨⟨_, rfl⟩, by rw [upd_same]; exact Nat.le_refl _, fun _ => ⟨_, upd_same _ _ _, by simp⟩⟩, fun cap hc hC => ⟨⟨_, _, rfl⟩, by rw [upd_same]; exact Nat.le_refl _, fun _ => .inr ⟨_, cap, upd_same _ _ _, rfl, by simp, hc, by simpa using hC, fun els' he => ?_⟩⟩⟩
  rw [upd_same] at he
  simp at he; subst he
  exact ⟨by simp, by simpa using hc⟩

theorem alloc_run (h : Inv w0 S fz0 g s w) {e : TypeId} {el : PV} (hz : zeroEl P e = some el) :
    ∃ v w' g', (Instr.alloc e true (.tuple #[])).run P w = .ok v w' ∧ RepA g' (upd s d ((s d).1 + 1, some [.p el])) v (.mp d ((s d).1 + 1) 0 0) ∧ Inv w0 S fz0 g' (upd s d ((s d).1 + 1, some [.p el])) w' ∧ Ext g s g' (upd s d ((s d).1 + 1, some [.p el])) := by
  obtain ⟨i, z, h1, h2, h3, h4, h5⟩ := zeroEl_rep (g := g) (s := s) hz
  have hb := newBox h (w' := { w with heap := w.heap.push (.cells z.cells e (0, 0)) }) ⟨rfl, rfl, rfl, Nat.le_refl _⟩ d [.p el] z.cells e (AV.p el).cells.length rfl (by simp) (by simp [h4]) z.cells.toList (by simpa [flat] using h3) (by simp) (by
    have := h3.length
    simp at this ⊢; omega)
  exact ⟨_, _, _, by simp [Instr.alloc, zeroValue, typeInfo, h1, h2, newVar, newRow], hb.2.2.1, hb.1, hb.2.1⟩

theorem box_run (h : Inv w0 S fz0 g s w) {e : TypeId} {v : Value} {x : AV} (hv : RepA g s v x) (ho : vok x = true) :
    ∃ u w' g', (Instr.box e v).run P w = .ok u w' ∧ RepA g' (upd s d ((s d).1 + 1, some [x])) u (.mp d ((s d).1 + 1) 0 0) ∧ Inv w0 S fz0 g' (upd s d ((s d).1 + 1, some [x])) w' ∧ Ext g s g' (upd s d ((s d).1 + 1, some [x])) := by
  have h3 := hv.cells ho
  have hb := newBox h (w' := { w with heap := w.heap.push (.cells v.cells e (0, 0)) }) ⟨rfl, rfl, rfl, Nat.le_refl _⟩ d [x] v.cells e x.cells.length rfl (by simp) (by simp [ho]) v.cells.toList (by simpa [flat] using h3) (by simp) (by
    have := h3.length
    simp at this ⊢; omega)
  exact ⟨_, _, _, by simp [Instr.box, newVar, newRow], hb.2.2.1, hb.1, hb.2.1⟩

theorem mksl_run (h : Inv w0 S fz0 g s w) {t e : TypeId} {el : PV} (ht : P.underlying t = some (.slice e)) (hsm : small P e = true) (hz : zeroEl P e = some el) {kl kc : IntKind} {n : Int} (h0 : 0 ≤ n) (hn : n ≤ room) :
    ∃ v w' g', (Instr.makeSlice t (.int kl n) (.int kc n)).run P w = .ok v w' ∧ RepA g' (upd s d ((s d).1 + 1, some (List.replicate n.toNat (.p el)))) v (.ms d ((s d).1 + 1) 0 n.toNat (P.cellsOf e)) ∧
      Inv w0 S fz0 g' (upd s d ((s d).1 + 1, some (List.replicate n.toNat (.p el)))) w' ∧ Ext g s g' (upd s d ((s d).1 + 1, some (List.replicate n.toNat (.p el)))) := by
  obtain ⟨i, z, h1, h2, h3, h4, h5⟩ := zeroEl_rep (g := g) (s := s) hz
  have hcl : (AV.p el).cells.length = P.cellsOf e := by rw [← h5, ← h3.length]; simp
  have hsize : i.size = P.cellsOf e := by simp [Program.cellsOf, h1]
  have hby : i.bytes ≤ 4096 := by simpa [small, Program.bytesOf, h1] using hsm
  have hbn : (i.bytes : Int) * n ≤ 4096 * 4294967296 := Int.mul_le_mul (by omega) (by simpa [room] using hn) h0 (by omega)
  have hrun := run_make (P := P) w t e i z ht h1 h2 kl kc n n h0 (Int.le_refl _) (by omega) (by simp [room] at hn; omega)
  have hmade : (madeCells z.cells (n.toNat * i.size)).size = n.toNat * i.size := size_madeCells _ _
  have hget : ∀ a j, a < n.toNat → j < P.cellsOf e → (madeCells z.cells (n.toNat * i.size))[a * P.cellsOf e + j]? = z.cells[j]? := by
    intro a j ha hj
    have hlt : a * P.cellsOf e + j < n.toNat * i.size := by
      rw [hsize]
      have : (a + 1) * P.cellsOf e ≤ n.toNat * P.cellsOf e := Nat.mul_le_mul_right _ ha
      rw [Nat.add_mul, Nat.one_mul] at this; omega
    have hm : (a * P.cellsOf e + j) % P.cellsOf e = j := by rw [Nat.mul_comm, Nat.mul_add_mod]; exact Nat.mod_eq_of_lt hj
    have hj' : j < z.cells.size := by omega
    have hb : some z.cells[j]! = z.cells[j]? := by rw [getElem!_pos z.cells j hj', Array.getElem?_eq_getElem hj']
    simp [madeCells, hlt, h5, hm, hb]
  have hb := newBox h (w' := w.alloc (.cells (madeCells z.cells (n.toNat * i.size)) e)) ⟨rfl, rfl, rfl, Nat.le_refl _⟩ d (List.replicate n.toNat (.p el)) (madeCells z.cells (n.toNat * i.size)) e (P.cellsOf e) rfl
    (fun x hx => by rw [(List.mem_replicate.1 hx).2]; exact hcl) (fun x hx => by rw [(List.mem_replicate.1 hx).2]; exact h4)
    (List.replicate n.toNat z.cells.toList).flatten ?_ ?_ (by rw [hmade, hsize]; simp)
  · refine ⟨_, _, _, hrun, ?_, hb.1, hb.2.1⟩
    have := hb.2.2.2 n.toNat (by simp) (by rw [hmade, hsize]; exact Nat.le_refl _)
    simpa using this
  · generalize n.toNat = m
    induction m with
    | zero => simp [flat]; trivial
    | succ m ih =>
      have e1 : (List.replicate (m + 1) z.cells.toList).flatten = z.cells.toList ++ (List.replicate m z.cells.toList).flatten := by simp [List.replicate_succ]
      have e2 : flat (List.replicate (m + 1) (AV.p el)) = (AV.p el).cells ++ flat (List.replicate m (.p el)) := by simp [flat, List.replicate_succ]
      rw [e1, e2]
      exact h3.append ih
  · intro j v hv
    have hzl : z.cells.toList.length = P.cellsOf e := by simp [h5]
    have key : ∀ m, m ≤ n.toNat → ∀ j v, ((List.replicate m z.cells.toList).flatten)[j]? = some v → (madeCells z.cells (n.toNat * i.size))[(n.toNat - m) * P.cellsOf e + j]? = some v := by
      intro m
      induction m with
      | zero => intro _ j v hv; simp at hv
      | succ m ih =>
        intro hm j v hv
        have e1 : (List.replicate (m + 1) z.cells.toList).flatten = z.cells.toList ++ (List.replicate m z.cells.toList).flatten := by simp [List.replicate_succ]
        rw [e1] at hv
        by_cases hj : j < P.cellsOf e
        · rw [List.getElem?_append_left (by omega)] at hv
          rw [hget _ j (by omega) hj]; simpa using hv
        · rw [List.getElem?_append_right (by omega), hzl] at hv
          have := ih (by omega) _ v hv
          have e3 : (n.toNat - m) * P.cellsOf e + (j - P.cellsOf e) = (n.toNat - (m + 1)) * P.cellsOf e + j := by
            have : n.toNat - m = (n.toNat - (m + 1)) + 1 := by omega
            rw [this, Nat.add_mul, Nat.one_mul]; omega
          rwa [e3] at this
    simpa using key n.toNat (Nat.le_refl _) j v hv

end
end Go.Proofs.YtjlebmnlphjjoaaGreatDoor.Abs
namespace Go.Proofs.YtjlebmnlphjjoaaGreatDoor.Abs

section
variable {P : Program} {w0 : World} {S : Nat → Prop} {fz0 : Fz} {g : G} {s : Nat → K} {w w' : World} {E : Env} {C : CFT} {d : Nat} {gf : Opd → AV}

/-- An element that lies laid down, as a value of a box. -/
theorem el_ok {fz : Fz} {b o : Nat} {x : PV} (h : RepCells fz b o x.cells) : vok (.p x) = true := by
  cases x with
  | tup cs =>
    cases h with | cons _ _ _ _ _ _ h2 h3 _ => cases h2; simp [Value.oneCell'] at h3
  | _ => rfl

theorem els_flat (hz : ∀ b o v, g.fz b o = some v → w.cell? ⟨b, o, none⟩ = some v) {b z : Nat} : ∀ {o : Nat} {xs : List PV}, RepEls g.fz b o z xs →
    ∃ vs : List Value, RepCs g s vs (flat (xs.map .p)) ∧ (∀ j v, vs[j]? = some v → w.cell? ⟨b, o + j, none⟩ = some v) ∧ ∀ x ∈ xs.map AV.p, vok x = true ∧ x.cells.length = z
  | _, _, .nil b o z => ⟨[], trivial, fun j v h => by simp at h, by simp⟩
  | _, _, .cons b o z x xs h1 h2 r => by
    obtain ⟨vs, h3, h4, h5⟩ := els_flat hz r
    obtain ⟨us, h6, h7⟩ := fp_cells hz h1
    have hl : us.length = z := by rw [h6.length, h2]
    refine ⟨us ++ vs, ?_, fun j v hv => ?_, fun y hy => ?_⟩
    · simp only [flat, List.map_cons, List.flatMap_cons] at h3 ⊢
      rw [cells_p]
      exact (h6.cs rfl).append h3
    · by_cases hj : j < us.length
      · rw [List.getElem?_append_left hj] at hv; exact h7 j v hv
      · rw [List.getElem?_append_right (by omega)] at hv
        have := h4 _ v hv
        have e : o + z + (j - us.length) = o + j := by omega
        rwa [e] at this
    · rcases List.mem_cons.1 hy with rfl | hy
      · exact ⟨el_ok h1, by rw [cells_p]; simpa using h2⟩
      · exact h5 y hy

theorem box_flat (h : Inv w0 S fz0 g s w) {k : Nat} {els : List AV} {p : Pl} (hk : (s k).2 = some els) (hp : g.bk k = some p) :
    ∀ (n o : Nat), o + n ≤ els.length → ∃ vs : List Value, RepCs g s vs (flat ((els.drop o).take n)) ∧ (∀ j v, vs[j]? = some v → w.cell? ⟨p.b, p.base + o * p.z + j, none⟩ = some v)
  | 0, o, _ => ⟨[], by simp [flat]; trivial, fun j v h => by simp at h⟩
  | n + 1, o, hn => by
    obtain ⟨vs, h1, h2⟩ := box_flat h hk hp n (o + 1) (by omega)
    have ho : o < els.length := by omega
    obtain ⟨us, h3, h4⟩ := box_cells h hk hp (List.getElem?_eq_getElem ho)
    have hl : us.length = p.z := by rw [h3.length, boxCellsLen h hk hp (List.getElem?_eq_getElem ho)]
    have e : (els.drop o).take (n + 1) = els[o] :: ((els.drop (o + 1)).take n) := by
      rw [List.drop_eq_getElem_cons ho, List.take_succ_cons]
    refine ⟨us ++ vs, ?_, fun j v hv => ?_⟩
    · rw [e]; simp only [flat, List.flatMap_cons] at h1 ⊢
      exact h3.append h1
    · by_cases hj : j < us.length
      · rw [List.getElem?_append_left hj] at hv; exact h4 j v hv
      · rw [List.getElem?_append_right (by omega)] at hv
        have := h2 _ v hv
        have e : p.base + (o + 1) * p.z + (j - us.length) = p.base + o * p.z + j := by rw [Nat.add_mul, Nat.one_mul]; omega
        rwa [e] at this

theorem box_els (h : Inv w0 S fz0 g s w) {k : Nat} {els : List AV} {p : Pl} (hk : (s k).2 = some els) (hp : g.bk k = some p) : ∀ el ∈ els, vok el = true ∧ el.cells.length = p.z := by
  intro el hel
  obtain ⟨i, hi⟩ := List.getElem?_of_mem hel
  rcases h.box k els hk with ⟨hx, hy⟩ | ⟨p', hp', c, t', hb, hc', hsz0, hels0⟩
  · rw [hp] at hy; cases hy
  · rw [hp] at hp'; cases hp'
    exact ⟨(hels0 i el hi).1, (hels0 i el hi).2.1⟩

/-- What is appended: its cells. -/
structure TailOk (g : G) (s : Nat → K) (w : World) (z : Nat) (v : Value) (ys : List AV) : Prop where
  els : ∀ y ∈ ys, vok y = true ∧ y.cells.length = z
  val : ∃ b c news, v = .slice b ys.length c ∧ SpotOk b ∧ RepCs g s news (flat ys) ∧ ((ys = [] ) ∨ ∃ k o, b = some ⟨k, o, none⟩ ∧ ∀ j u, news[j]? = some u → w.cell? ⟨k, o + j, none⟩ = some u)

theorem tail_ok (h : Inv w0 S fz0 g s w) {z : Nat} {v : Value} {x : AV} {ys : List AV} (hv : RepA g s v x) (hs : tailOf s z x = some ys) : TailOk g s w z v ys := by
  cases x with
  | p x =>
    cases x with
    | ls z' xs =>
      simp only [tailOf] at hs
      split at hs
      · rename_i hz
        subst hz
        simp only [Option.some.injEq] at hs; subst hs
        cases hv with
        | lsn => exact ⟨by simp, none, 0, [], rfl, (fun a h => by cases h), trivial, .inl rfl⟩
        | ls b o cap _ _ he hc =>
          obtain ⟨vs, h1, h2, h3⟩ := els_flat (g := g) (s := s) h.fzok he
          exact ⟨h3, some ⟨b, o, none⟩, cap, vs, by simp, (fun a h => by cases h; rfl), h1, .inr ⟨b, o, rfl, h2⟩⟩
      · cases hs
    | nls =>
      simp only [tailOf, Option.some.injEq] at hs; subst hs
      cases hv
      exact ⟨by simp, none, 0, [], rfl, (fun a h => by cases h), trivial, .inl rfl⟩
    | _ => simp [tailOf] at hs
  | e0 z' =>
    simp only [tailOf, Option.some.injEq] at hs; subst hs
    obtain ⟨b, rfl, hb⟩ := hv
    exact ⟨by simp, b, 0, [], rfl, hb, trivial, .inl rfl⟩
  | ms k ver o n z' =>
    simp only [tailOf, lk] at hs
    split at hs
    · rename_i hz
      subst hz
      split at hs
      · rename_i els hels
        split at hels
        · rename_i hver
          simp only [Option.some.injEq] at hs; subst hs
          obtain ⟨_, _, h2⟩ := hv
          rcases h2 hver with ⟨b, rfl, hb, rfl, hl⟩ | ⟨p, cap, hp, hz, rfl, hc, hC, hl⟩
          · simp only [List.take_zero]
            exact ⟨by simp, b, 0, [], by simp, hb, trivial, .inl rfl⟩
          · have hl' := hl els hels
            have hlen : ((els.drop o).take n).length = n := by simp; omega
            obtain ⟨vs, h3, h4⟩ := box_flat h hels hp n o hl'.1
            refine ⟨fun y hy => ?_, some ⟨p.b, p.base + o * z', none⟩, cap, vs, by rw [hlen], (fun a h => by cases h; rfl), h3, .inr ⟨_, _, rfl, by rw [← hz]; exact h4⟩⟩
            have := box_els h hels hp y (List.mem_of_mem_drop (List.mem_of_mem_take hy))
            rw [← hz]; exact this
        · cases hels
      · cases hs
    · cases hs
  | _ => simp [tailOf] at hs

theorem firstCells_run {b : Option Addr} {c m z : Nat} {news : List Value} (hl : news.length = m * z) (hc : (m = 0) ∨ ∃ k o, b = some ⟨k, o, none⟩ ∧ ∀ j u, news[j]? = some u → w.cell? ⟨k, o + j, none⟩ = some u) :
    (Builtin.firstCells z m (.slice b m c)).run P w = .ok news.toArray w := by
  rcases hc with rfl | ⟨k, o, rfl, hc⟩
  · have : news = [] := by simpa using hl
    subst this
    cases b with
    | none => simp [Builtin.firstCells]
    | some a => simp [Builtin.firstCells, loadCells, loadCellsFrom]
  · simp only [Builtin.firstCells]
    rw [← hl]
    exact loadCells_run news hc

theorem append_fit (t ty e : TypeId) (i : TypeInfo) (ht : P.underlying t = some (.slice e)) (hi : P.info? e = some i) {b b2 : Option Addr} {n cap m c : Nat} {news : List Value}
    (hf : (Builtin.firstCells i.size m (.slice b2 m c)).run P w = .ok news.toArray w) (hroom : n + m ≤ cap)
    (hst : match b with | some a => (storeCells (a.add (n * i.size)) news).run P w = .ok () w' | none => w' = w) :
    (Builtin.append_ #[t, t] ty #[.slice b n cap, .slice b2 m c]).run P w = .ok (.slice b (n + m) cap) w' := by
  cases b with
  | none =>
    subst hst
    simp [Builtin.append_, run_underlying ht, sizeOf, typeInfo, hi, Builtin.lenOf, hroom, hf]
  | some a =>
    simp [Builtin.append_, run_underlying ht, sizeOf, typeInfo, hi, Builtin.lenOf, hroom, hf, hst]

theorem append_new (t ty e : TypeId) (i : TypeInfo) (zv : Value) (ht : P.underlying t = some (.slice e)) (hi : P.info? e = some i) (hzv : i.zero = some zv) (hby : i.bytes ≤ 4096) {b b2 : Option Addr} {n cap m c : Nat} {olds news : List Value}
    (ho : (Builtin.firstCells i.size n (.slice b n cap)).run P w.drew = .ok olds.toArray w.drew)
    (hf : (Builtin.firstCells i.size m (.slice b2 m c)).run P w.drew = .ok news.toArray w.drew) (hroom : cap < n + m) (hbig : n + m ≤ room) :
    (Builtin.append_ #[t, t] ty #[.slice b n cap, .slice b2 m c]).run P w = .ok (.slice (some ⟨w.heap.size, 0, none⟩) (n + m) (grownCap w (n + m) cap e))
      (w.drew.alloc (.cells (olds.toArray ++ news.toArray ++ Builtin.zeroCells zv.cells (grownCap w (n + m) cap e - (n + m))) e)) := by
  have hn : ¬ (n + m ≤ cap) := by omega
  have h63' : ¬ (9223372036854775807 < ((n : Int) + (m : Int))) := by simp [room] at hbig; omega
  have hfit : (n + m) * i.bytes ≤ 140737488355328 := by
    have : (n + m) * i.bytes ≤ 4294967296 * 4096 := Nat.mul_le_mul (by simpa [room] using hbig) hby
    omega
  have h48' : ¬ (281474976710656 < Builtin.nextslicecap (n + m) cap * i.bytes) := by have := growslice_fits (old := cap) hroom hfit; omega
  simp [Builtin.append_, run_underlying ht, sizeOf, typeInfo, zeroValue, hi, hzv, Builtin.lenOf, hn, h63', h48', Question.forced, hf, ho, newRow, grownCap]
  congr 2
  apply Array.ext'
  simp [List.append_assoc]

/-- What append gives, in the abstract. -/
theorem app_run (h : Inv w0 S fz0 g s w) {t ty e : TypeId} {el : PV} (ht : P.underlying t = some (.slice e)) (hsm : small P e = true) (hz : zeroEl P e = some el) {x y : Opd} {v u : Value} (hv : RepA g s v (gf x)) (hu : RepA g s u (gf y)) {r : AV} {us : List (Nat × K)}
    (hs : sem E C d (.app (P.cellsOf e) x y) gf s = some (r, us)) :
    ∃ q w' g', (Builtin.append_ #[t, t] ty #[v, u]).run P w = .ok q w' ∧ RepA g' (updAll s us) q r ∧ Inv w0 S fz0 g' (updAll s us) w' ∧ Ext g s g' (updAll s us) := by
  obtain ⟨i, zv, h1, h2, h3, h4, h5⟩ := zeroEl_rep (g := g) (s := s) hz
  have hsize : i.size = P.cellsOf e := by simp [Program.cellsOf, h1]
  have hby : i.bytes ≤ 4096 := by simpa [small, Program.bytesOf, h1] using hsm
  simp only [sem] at hs
  split at hs
  · cases hs
  · rename_i ys hys
    have hT := tail_ok h hu hys
    obtain ⟨b2, c2, news, rfl, hb2, hnews, hcell⟩ := hT.val
    have hnl : news.length = ys.length * P.cellsOf e := by rw [hnews.length, flat_length fun y hy => (hT.els y hy).2]
    have hcell' : (ys.length = 0) ∨ ∃ k o, b2 = some ⟨k, o, none⟩ ∧ ∀ (j : Nat) (u : Value), news[j]? = some u → w.cell? ⟨k, o + j, none⟩ = some u := by
      rcases hcell with rfl | hc
      · exact .inl rfl
      · exact .inr hc
    have hf : ∀ w2 : World, w2.heap = w.heap → (Builtin.firstCells i.size ys.length (.slice b2 ys.length c2)).run P w2 = .ok news.toArray w2 := fun w2 hw => by
      rw [hsize]
      refine firstCells_run hnl ?_
      rcases hcell' with hc | ⟨k, o, hb, hc⟩
      · exact .inl hc
      · exact .inr ⟨k, o, hb, fun j u hu => by rw [cell_same (w := w) (w' := w2) (by rw [hw])]; exact hc j u hu⟩
    have hone : ∀ u ∈ news, u.oneCell' = true := fun u hu => by
      obtain ⟨j, hj⟩ := List.getElem?_of_mem hu
      have hj' : j < (flat ys).length := by rw [← hnews.length]; exact (List.getElem?_eq_some_iff.1 hj).1
      obtain ⟨v', h1, h2, _⟩ := hnews.get (List.getElem?_eq_getElem hj')
      rw [hj] at h1; simp at h1; subst h1; exact h2
    -- a fresh box
    have fresh : ∀ (d : Nat) (b : Option Addr), v = .slice b 0 0 → SpotOk b → ys.length ≤ room → ∃ q w' g', (Builtin.append_ #[t, t] ty #[v, .slice b2 ys.length c2]).run P w = .ok q w' ∧
        RepA g' (upd s d ((s d).1 + 1, some ys)) q (.ms d ((s d).1 + 1) 0 ys.length (P.cellsOf e)) ∧ Inv w0 S fz0 g' (upd s d ((s d).1 + 1, some ys)) w' ∧ Ext g s g' (upd s d ((s d).1 + 1, some ys)) := by
      rintro d b rfl hb hroom
      by_cases h0 : ys.length = 0
      · have hy0 : ys = [] := List.eq_nil_of_length_eq_zero h0
        subst hy0
        have hn0 : news = [] := by simpa using hnl
        subst hn0
        obtain ⟨hI, hE⟩ := h.alloc0 d
        refine ⟨.slice b 0 0, w, _, ?_, ⟨⟨_, _, rfl⟩, by rw [upd_same]; exact Nat.le_refl _, fun _ => .inl ⟨b, rfl, hb, rfl, fun els he => ?_⟩⟩, hI, hE⟩
        · have := append_fit (P := P) (w := w) (w' := w) t ty e i ht h1 (b := b) (n := 0) (cap := 0) (hf w rfl) (by simp) (by cases b <;> simp [storeCells])
          simpa using this
        · rw [upd_same] at he; simp at he; subst he; exact Nat.le_refl _
      · have hold : (Builtin.firstCells i.size 0 (.slice b 0 0)).run P w.drew = .ok ([] : List Value).toArray w.drew := firstCells_run (by simp) (.inl rfl)
        have hrun := append_new (P := P) (w := w) t ty e i zv ht h1 h2 hby hold (hf w.drew rfl) (by omega) (by simpa using hroom)
        simp only [Nat.zero_add, List.toArray, Array.empty_append] at hrun
        have hcap := grownCap_ge w (ys.length) 0 e
        have hcs : (news.toArray ++ Builtin.zeroCells zv.cells (grownCap w ys.length 0 e - ys.length)).size = grownCap w ys.length 0 e * P.cellsOf e := by
          simp only [Array.size_append, List.size_toArray, hnl, size_zeroCells, h5]
          rw [← Nat.add_mul]; congr 1; omega
        have hb := newBox h (w' := w.drew.alloc (.cells (news.toArray ++ Builtin.zeroCells zv.cells (grownCap w ys.length 0 e - ys.length)) e)) ⟨rfl, rfl, rfl, Nat.le_succ _⟩ d ys _ e (P.cellsOf e) rfl
          (fun y hy => (hT.els y hy).2) (fun y hy => (hT.els y hy).1) news hnews (fun j v hv => by
            have hj : j < news.length := (List.getElem?_eq_some_iff.1 hv).1
            rw [Array.getElem?_append_left (by simpa using hj)]; simpa using hv) (by rw [hcs]; exact Nat.mul_le_mul_right _ hcap)
        exact ⟨_, _, _, by simpa using hrun, hb.2.2.2 _ hcap (by rw [hcs]; exact Nat.le_refl _), hb.1, hb.2.1⟩
    split at hs
    · rename_i z' hg
      rw [hg] at hv
      obtain ⟨b, hb1, hb2⟩ := hv
      split at hs
      · rename_i hroom
        simp only [Option.some.injEq, Prod.mk.injEq] at hs; obtain ⟨rfl, rfl⟩ := hs
        exact fresh d b hb1 hb2 hroom
      · cases hs
    · rename_i hg
      rw [hg] at hv
      cases hv
      split at hs
      · rename_i hroom
        simp only [Option.some.injEq, Prod.mk.injEq] at hs; obtain ⟨rfl, rfl⟩ := hs
        exact fresh d none rfl (fun a h => by cases h) hroom
      · cases hs
    · rename_i k ver o n z' hg
      rw [hg] at hv
      simp only [lk] at hs
      split at hs
      · rename_i els hels
        split at hels
        · rename_i hver
          split at hs
          · rename_i hz'
            subst hz'
            obtain ⟨_, _, h6⟩ := hv
            have h6 := h6 hver
            split at hs
            · -- within the box
              rename_i hin
              simp only [Option.some.injEq, Prod.mk.injEq] at hs; obtain ⟨rfl, rfl⟩ := hs
              rcases h6 with ⟨b, rfl, hb, rfl, hl⟩ | ⟨p, cap, hp, hz, rfl, hc, hC, hl⟩
              · have hl' := hl els hels
                have h0 : ys.length = 0 := by omega
                have hy0 : ys = [] := List.eq_nil_of_length_eq_zero h0
                subst hy0
                have hn0 : news = [] := by simpa using hnl
                subst hn0
                have hsame : updAll s [(k, (s k).1, some (els.take (o + 0) ++ [] ++ els.drop (o + 0 + ([] : List AV).length)))] = s := by
                  funext j
                  simp only [updAll, upd]
                  split
                  · rename_i hj; subst hj
                    simp only [Nat.add_zero, List.append_nil, List.length_nil, List.take_append_drop, ← hels]
                  · rfl
                rw [hsame]
                refine ⟨.slice b 0 0, w, g, ?_, ⟨⟨_, _, rfl⟩, by omega, fun _ => .inl ⟨b, rfl, hb, rfl, hl⟩⟩, h, Ext.refl _ _⟩
                have := append_fit (P := P) (w := w) (w' := w) t ty e i ht h1 (b := b) (n := 0) (cap := 0) (hf w rfl) (by simp) (by cases b <;> simp [storeCells])
                simpa using this
              · have hl' := hl els hels
                have hpz : p.z = P.cellsOf e := hz
                have hyl : (flat ys).length = ys.length * P.cellsOf e := flat_length fun y hy => (hT.els y hy).2
                have hsz : p.base + els.length * p.z ≤ p.c := by
                  rcases h.box k els hels with ⟨hx, hy⟩ | ⟨p', hp', c, t', hb, hc', hsz0, hels0⟩
                  · rw [hp] at hy; cases hy
                  · rw [hp] at hp'; cases hp'; exact hsz0
                have hmul : (o + n) * p.z + ys.length * p.z ≤ els.length * p.z := by rw [← Nat.add_mul]; exact Nat.mul_le_mul_right _ hin
                have hlen : (els.take (o + n) ++ ys ++ els.drop (o + n + ys.length)).length = els.length := by simp; omega
                obtain ⟨w', hrun, hI, hE⟩ := h.seg (P := P) (els' := els.take (o + n) ++ ys ++ els.drop (o + n + ys.length)) (ver := (s k).1) hels hp (.inl ⟨rfl, hlen⟩) (p.base + (o + n) * p.z) news hone
                  (by rw [hnl, ← hpz]; omega) (by rw [hlen]; exact hsz) (fun a el ha => by
                    rw [List.append_assoc] at ha
                    have htl : (els.take (o + n)).length = o + n := by simp; omega
                    by_cases ha1 : a < o + n
                    · rw [List.getElem?_append_left (by omega), List.getElem?_take, if_pos ha1] at ha
                      have hok := box_els h hels hp el (List.mem_of_getElem? ha)
                      refine ⟨hok.1, hok.2, fun j x hx => .inr ⟨.inl ?_, el, ha, hx⟩⟩
                      have hj : j < p.z := by rw [← hok.2]; exact (List.getElem?_eq_some_iff.1 hx).1
                      have : (a + 1) * p.z ≤ (o + n) * p.z := Nat.mul_le_mul_right _ ha1
                      rw [Nat.add_mul, Nat.one_mul] at this; omega
                    · rw [List.getElem?_append_right (by omega), htl] at ha
                      by_cases ha2 : a - (o + n) < ys.length
                      · rw [List.getElem?_append_left ha2] at ha
                        have hok := hT.els el (List.mem_of_getElem? ha)
                        refine ⟨hok.1, by rw [hok.2, hpz], fun j x hx => .inl ?_⟩
                        have hg := flat_get (z := p.z) (fun y hy => by rw [(hT.els y hy).2, hpz]) ha hx
                        obtain ⟨u, hu1, hu2, hu3⟩ := hnews.get hg
                        have hmm : (o + n) * p.z ≤ a * p.z := Nat.mul_le_mul_right _ (by omega)
                        refine ⟨by omega, u, ?_, hu3⟩
                        have : p.base + a * p.z + j - (p.base + (o + n) * p.z) = (a - (o + n)) * p.z + j := by rw [Nat.sub_mul]; omega
                        rw [this]; exact hu1
                      · rw [List.getElem?_append_right (by omega), List.getElem?_drop] at ha
                        have he : o + n + ys.length + (a - (o + n) - ys.length) = a := by omega
                        rw [he] at ha
                        have hok := box_els h hels hp el (List.mem_of_getElem? ha)
                        refine ⟨hok.1, hok.2, fun j x hx => .inr ⟨.inr ?_, el, ha, hx⟩⟩
                        have : (o + n + ys.length) * p.z ≤ a * p.z := Nat.mul_le_mul_right _ (by omega)
                        rw [Nat.add_mul] at this
                        rw [hnl, ← hpz]; omega)
                refine ⟨_, w', g, append_fit (P := P) (w := w) (w' := w') t ty e i ht h1 (b := some ⟨p.b, p.base + o * P.cellsOf e, none⟩) (n := n) (cap := cap) (hf w rfl) (by omega) ?_, ?_, by simpa [updAll] using hI, by simpa [updAll] using hE⟩
                · simp only [add_lit, hsize]
                  have : p.base + o * P.cellsOf e + n * P.cellsOf e = p.base + (o + n) * p.z := by rw [hpz, Nat.add_mul]; omega
                  rw [this]; exact hrun
                · simp only [updAll]
                  refine ⟨⟨_, _, rfl⟩, by rw [upd_same]; omega, fun _ => .inr ⟨p, cap, hp, hz, rfl, by omega, hC, fun els2 he => ?_⟩⟩
                  rw [upd_same] at he
                  simp only [Option.some.injEq] at he; subst he
                  rw [hlen]; omega
            · split at hs
              · rename_i hgrow
                obtain ⟨rfl, rfl, hroom⟩ := hgrow
                simp only [Option.some.injEq, Prod.mk.injEq] at hs; obtain ⟨rfl, rfl⟩ := hs
                simp only [updAll]
                rcases h6 with ⟨b, rfl, hb, hn, hl⟩ | ⟨p, cap, hp, hz, rfl, hc, hC, hl⟩
                · have he0 : els = [] := List.eq_nil_of_length_eq_zero hn
                  subst he0
                  have := fresh k b rfl hb (by simpa using hroom)
                  simpa using this
                · have hpz : p.z = P.cellsOf e := hz
                  have hl' := hl els hels
                  have hC' : p.base + cap * p.z ≤ p.c := by rw [hpz]; simpa using hC
                  by_cases hcap : els.length + ys.length ≤ cap
                  · have hmul : els.length * p.z + ys.length * p.z ≤ cap * p.z := by rw [← Nat.add_mul]; exact Nat.mul_le_mul_right _ hcap
                    obtain ⟨w', hrun, hI, hE⟩ := h.seg (P := P) (els' := els ++ ys) (ver := (s k).1 + 1) hels hp (.inr rfl) (p.base + els.length * p.z) news hone
                      (by rw [hnl, ← hpz]; omega) (by rw [List.length_append, Nat.add_mul]; omega) (fun a el ha => by
                        by_cases ha1 : a < els.length
                        · rw [List.getElem?_append_left ha1] at ha
                          have hok := box_els h hels hp el (List.mem_of_getElem? ha)
                          refine ⟨hok.1, hok.2, fun j x hx => .inr ⟨.inl ?_, el, ha, hx⟩⟩
                          have hj : j < p.z := by rw [← hok.2]; exact (List.getElem?_eq_some_iff.1 hx).1
                          have : (a + 1) * p.z ≤ els.length * p.z := Nat.mul_le_mul_right _ ha1
                          rw [Nat.add_mul, Nat.one_mul] at this; omega
                        · rw [List.getElem?_append_right (by omega)] at ha
                          have hok := hT.els el (List.mem_of_getElem? ha)
                          refine ⟨hok.1, by rw [hok.2, hpz], fun j x hx => .inl ?_⟩
                          have hg := flat_get (z := p.z) (fun y hy => by rw [(hT.els y hy).2, hpz]) ha hx
                          obtain ⟨u, hu1, hu2, hu3⟩ := hnews.get hg
                          have hmm : els.length * p.z ≤ a * p.z := Nat.mul_le_mul_right _ (by omega)
                          refine ⟨by omega, u, ?_, hu3⟩
                          have : p.base + a * p.z + j - (p.base + els.length * p.z) = (a - els.length) * p.z + j := by rw [Nat.sub_mul]; omega
                          rw [this]; exact hu1)
                    refine ⟨_, w', g, append_fit (P := P) (w := w) (w' := w') t ty e i ht h1 (b := some ⟨p.b, p.base + 0 * P.cellsOf e, none⟩) (n := els.length) (cap := cap) (hf w rfl) hcap ?_, ?_, hI, hE⟩
                    · simp only [add_lit, hsize]
                      have : p.base + 0 * P.cellsOf e + els.length * P.cellsOf e = p.base + els.length * p.z := by rw [hpz]; omega
                      rw [this]; exact hrun
                    · refine ⟨⟨_, _, rfl⟩, by rw [upd_same]; exact Nat.le_refl _, fun _ => .inr ⟨p, cap, hp, hz, rfl, hcap, hC, fun els2 he => ?_⟩⟩
                      rw [upd_same] at he
                      simp only [Option.some.injEq] at he; subst he
                      simp; omega
                  · obtain ⟨olds, ho1, ho2⟩ := box_flat h hels hp els.length 0 (by omega)
                    have hfl : (els.drop 0).take els.length = els := by simp
                    rw [hfl] at ho1
                    have hol : olds.length = els.length * P.cellsOf e := by rw [ho1.length, flat_length fun y hy => (box_els h hels hp y hy).2, hpz]
                    have hold : (Builtin.firstCells i.size els.length (.slice (some ⟨p.b, p.base + 0 * P.cellsOf e, none⟩) els.length cap)).run P w.drew = .ok olds.toArray w.drew := by
                      rw [hsize]
                      refine firstCells_run hol (.inr ⟨_, _, rfl, fun j u hu => ?_⟩)
                      have := ho2 j u hu
                      rw [hpz] at this; exact this
                    have hrun := append_new (P := P) (w := w) t ty e i zv ht h1 h2 hby hold (hf w.drew rfl) (by omega) hroom
                    have hcap' := grownCap_ge w (els.length + ys.length) cap e
                    have hcs : (olds.toArray ++ news.toArray ++ Builtin.zeroCells zv.cells (grownCap w (els.length + ys.length) cap e - (els.length + ys.length))).size = grownCap w (els.length + ys.length) cap e * P.cellsOf e := by
                      simp only [Array.size_append, List.size_toArray, hnl, hol, size_zeroCells, h5]
                      rw [← Nat.add_mul, ← Nat.add_mul]; congr 1; omega
                    have hb := newBox h (w' := w.drew.alloc (.cells (olds.toArray ++ news.toArray ++ Builtin.zeroCells zv.cells (grownCap w (els.length + ys.length) cap e - (els.length + ys.length))) e)) ⟨rfl, rfl, rfl, Nat.le_succ _⟩ k (els ++ ys) _ e (P.cellsOf e) rfl
                      (fun y hy => by
                        rcases List.mem_append.1 hy with hy | hy
                        · rw [← hpz]; exact (box_els h hels hp y hy).2
                        · exact (hT.els y hy).2) (fun y hy => by
                        rcases List.mem_append.1 hy with hy | hy
                        · exact (box_els h hels hp y hy).1
                        · exact (hT.els y hy).1) (olds ++ news) (by
                        have : flat (els ++ ys) = flat els ++ flat ys := by simp [flat]
                        rw [this]; exact ho1.append hnews) (fun j v hv => by
                        have hj : j < (olds ++ news).length := (List.getElem?_eq_some_iff.1 hv).1
                        rw [Array.getElem?_append_left (by simpa using hj)]; simpa using hv) (by rw [hcs, List.length_append]; exact Nat.mul_le_mul_right _ hcap')
                    refine ⟨_, _, _, hrun, ?_, hb.1, hb.2.1⟩
                    have := hb.2.2.2 (grownCap w (els.length + ys.length) cap e) (by rw [List.length_append]; exact hcap') (by rw [hcs]; exact Nat.le_refl _)
                    simpa using this
              · cases hs
          · cases hs
        · cases hels
      · cases hs
    · cases hs

end
end Go.Proofs.YtjlebmnlphjjoaaGreatDoor.Abs
