/- Abstract values; code, read off the program. -/
import Derived.Below
import Derived.Laws.AppendOwn
import Derived.Laws.Cells
import Derived.Laws.CopyRow
import Derived.OrdersIn
import Derived.RangeFuncIn
import Derived.RangeFuncOwn
import Derived.KernelRfl
import Derived.Laws.Append
import Derived.Laws.Tables
import Derived.Laws.StructEq
import Derived.Laws.Small
import Derived.MapKept
import Derived.Maps.RangeRun
import Derived.Lib.AppendZeros
import Derived.Lib.ConvBytes
set_option linter.unusedVariables false
set_option linter.unusedSimpArgs false
namespace Go.Av
open Go.RowKit

/-- Abstract values. -/
inductive AV where
  | int (k : IntKind) (n : Int)
  | bool (b : Bool)
  | str (s : ByteArray)
  | nilp | nilfn | nilif | nilmap | nilsl
  | agg (cs : List AV)
  | tup (cs : List AV)
  | sl (n : Nat) (f : Nat → List AV)
  | fn (f : Fn) (first captured : List AV)
  | iface (t : TypeId) (x : AV)
  | tptr (cs : List AV) (off : Nat)
  | hsl (id g sz len : Nat)
  | ptr (id g sz i off : Nat)
  | mp (id : Nat)
  | yl (id : Nat)
  | dead
  deriving Inhabited

def selE : Bool → AV → AV → AV
  | true, x, _ => x
  | false, _, y => y

/-- What lies in a slot. -/
def getE : List (Nat × AV) → Nat → AV
  | [], _ => .dead
  | (k, x) :: r, t => selE (k == t) x (getE r t)

inductive SX where
  | t (n : Nat)
  | c (x : AV)

def evX (env : List (Nat × AV)) : SX → AV
  | .t n => getE env n
  | .c x => x

def aggD : TypeDesc → Bool
  | .struct _ => true
  | .array _ _ => true
  | _ => false

/-- How leaves are compared. -/
inductive LK where
  | i | b | s
  deriving DecidableEq

def leafK : TypeDesc → Option LK
  | .int _ => some .i
  | .bool => some .b
  | .string => some .s
  | _ => none

def leavesF (rec : TypeId → Option (List (Nat × LK))) (P : Program) : List Field → Option (List (Nat × LK))
  | [] => some []
  | f :: fs =>
    if f.name = "_" then none else
    match P.info? f.type, rec f.type, leavesF rec P fs with
    | some i, some l, some l' => if l.all (fun p => decide (p.1 < i.size)) = true then some (l.map (fun p => (f.offset + p.1, p.2)) ++ l') else none
    | _, _, _ => none

/-- The leaves of a type that can be compared, by their places. -/
def leaves (P : Program) : Nat → TypeId → Option (List (Nat × LK))
  | 0, _ => none
  | n + 1, t =>
    match P.underlying t with
    | some (.struct fs) => if P.stoodInHeld t = true then none else leavesF (leaves P n) P fs.toList
    | some (.array len e) => match P.info? e, leaves P n e with
      | some i, some l => if l.all (fun p => decide (p.1 < i.size)) = true then some ((List.range len).flatMap fun k => l.map fun p => (k * i.size + p.1, p.2)) else none
      | _, _ => none
    | some d => (leafK d).map fun k => [(0, k)]
    | none => none

def coverB (l : List (Nat × LK)) : Bool := l.zipIdx.all fun p => p.1.1 == p.2

/-- What can be nil. -/
inductive NK where
  | p | f | i | s | m

inductive SOp where
  | mv (x : SX)
  | pick (c a b : SX)
  | bin (op : BinOp) (x y : SX)
  | un (op : UnOp) (x : SX)
  | conv (k : IntKind) (x : SX)
  | mm (mx : Bool) (x y : SX)
  | box (e : Nat) (x : SX)
  | load (agg : Bool) (sz : Nat) (x : SX)
  | store (sz : Nat) (x y : SX)
  | nilchk (x : SX)
  | fa (off : Nat) (x : SX)
  | fld (agg : Bool) (sz off : Nat) (x : SX)
  | ixS (sz : Nat) (x i : SX)
  | ixA (n sz : Nat) (x i : SX)
  | ext (i : Nat) (x : SX)
  | len (x : SX)
  | lenS (x : SX)
  | app (e sz bytes : Nat) (x y : SX)
  | mkfn (f : Fn) (fi ca : List SX)
  | bld (zero : List AV) (parts : List (Nat × Nat × SX))
  | bldS (e sz n : Nat) (zero : List AV) (parts : List (Nat × Nat × SX))
  | mkS (e sz bytes : Nat) (zero : List AV) (n : SX)
  | eqv (neg : Bool) (l : List (Nat × LK)) (x y : SX)
  | eqb (neg : Bool) (x y : SX)
  | isnil (k : NK) (neg : Bool) (x : SX)
  | ixV (agg : Bool) (n sz : Nat) (x i : SX)
  | ixT (x i : SX)
  | slS (sz : Nat) (x : SX) (lo hi : Option SX)
  | sl0 (e sz : Nat) (x : SX)
  | slT (x : SX) (lo hi : Option SX)
  | slA (n sz : Nat) (x : SX) (lo hi : Option SX)
  | mkM
  | look (agg : Bool) (l : List (Nat × LK)) (zero : AV) (ok : Bool) (m k : SX)
  | putM (agg : Bool) (l : List (Nat × LK)) (m k x : SX)
  | mkI (t : TypeId) (x : SX)
  | asI (t : TypeId) (ok : Bool) (zero : AV) (x : SX)
  | cBT (x : SX)
  | cTB (e : Nat) (x : SX)
  | mkIt (x : SX)
  | mkItM (x : SX)
  | nxt (x : SX)
  | nxm (x : SX)
  | ent (x : SX)
  | cap (x : SX)
  | appN (e sz bytes : Nat) (zero : List AV) (x n : SX)
  | clr (x : SX)
  | inv (tab : List (Nat × Nat)) (x : SX) (args : List SX)
  | cTT (x : SX)
  | pan (x : SX)
  | call (f : Nat) (args : List SX)
  | dyn (f : SX) (args : List SX)

def constC : Value → Option AV
  | .int k n => some (.int k n)
  | .bool b => some (.bool b)
  | .string s => some (.str s)
  | .pointer none => some .nilp
  | .nilFunc => some .nilfn
  | .nilIface => some .nilif
  | .map none => some .nilmap
  | .slice none 0 0 => some .nilsl
  | _ => none

def constL : List Value → Option (List AV)
  | [] => some []
  | v :: vs => match constC v, constL vs with | some x, some xs => some (x :: xs) | _, _ => none

def constA : Value → Option AV
  | .agg cs => (constL cs.toList).map .agg
  | .tuple cs => (constL cs.toList).map .tup
  | v => constC v

def compX : Operand → Option SX
  | .tmp t => some (.t t)
  | .const v => (constA v).map .c
  | .func f => some (.c (.fn (.func f) [] []))
  | .global _ => none

def compXs : List Operand → Option (List SX)
  | [] => some []
  | x :: xs => match compX x, compXs xs with | some y, some ys => some (y :: ys) | _, _ => none

def compParts (pl : Nat → Option (Nat × Nat)) : List (Nat × Operand) → Option (List (Nat × Nat × SX))
  | [] => some []
  | (i, x) :: r => match pl i, compX x, compParts pl r with | some (o, s), some y, some ys => some ((o, s, y) :: ys) | _, _, _ => none

def placesOf (P : Program) (fs : Array Field) : Option (List (Nat × Nat)) := fs.toList.mapM (fun f => (P.info? f.type).map fun i => (f.offset, i.size))

def eqOp : BinOp → Option Bool
  | .eql => some false
  | .neq => some true
  | _ => none

/-- Is the operand the literal nil, of a type of such a kind? -/
def nilOf : TypeDesc → Operand → Option NK
  | .pointer _, .const (.pointer none) => some .p
  | .func _ _ _, .const .nilFunc => some .f
  | .interface _, .const .nilIface => some .i
  | .slice _, .const (.slice none 0 0) => some .s
  | .map _ _, .const (.map none) => some .m
  | _, _ => none

def compO : Option Operand → Option (Option SX)
  | none => some none
  | some x => (compX x).map some

def isZero : Option Operand → Bool
  | some (.const (.int _ 0)) => true
  | _ => false
/-- The methods of that name, by the dynamic types that have them as they are. -/
def methGo (P : Program) (name : String) : List TypeInfo → Nat → List (Nat × Nat)
  | [], _ => []
  | i :: r, t =>
    match i.methods.find? (·.name == name) with
    | none => methGo P name r (t + 1)
    | some m => match m.path.toList, m.func, P.underlying t with
      | [], some (f, false), some (.pointer _) => methGo P name r (t + 1)
      | [], some (f, false), some _ => (t, f) :: methGo P name r (t + 1)
      | _, _, _ => methGo P name r (t + 1)
def methTab (P : Program) (name : String) : List (Nat × Nat) := methGo P name P.types.toList 0

def compOp (P : Program) (o : Oper) : Option SOp :=
  match o.op with
  | .move x => (compX x).map .mv
  | .assign x => (compX x).map .mv
  | .pick c a b => match compX c, compX a, compX b with | some c, some a, some b => some (.pick c a b) | _, _, _ => none
  | .binOp op t x y _ =>
    match compX x, compX y with
    | some sx, some sy =>
      match eqOp op, P.underlying t with
      | some neg, some (.struct _) => if P.eqGuardType P.depth t = true then none else (leaves P 30 t).map fun l => .eqv neg l sx sy
      | some neg, some (.array _ _) => if P.eqGuardType P.depth t = true then none else (leaves P 30 t).map fun l => .eqv neg l sx sy
      | some neg, some .bool => some (.eqb neg sx sy)
      | some neg, some d => match nilOf d y with
        | some k => some (.isnil k neg sx)
        | none => some (.bin op sx sy)
      | _, _ => some (.bin op sx sy)
    | _, _ => none
  | .unOp op _ x => (compX x).map (.un op)
  | .convert s t x =>
    match P.underlying s, P.underlying t, compX x with
    | some _, some (.int k), some x => some (.conv k x)
    | some .string, some .string, some x => some (.cTT x)
    | some (.slice e), some .string, some x => match P.underlying e with
      | some (.int .u8) => some (.cBT x)
      | _ => none
    | some .string, some (.slice e), some x => match P.underlying e with
      | some (.int .u8) => some (.cTB e x)
      | _ => none
    | _, _, _ => none
  | .box e x => (compX x).map (.box e)
  | .alloc e => match (P.info? e).bind (·.zero) with | some z => (constA z).map fun z => .box e (.c z) | none => none
  | .load t x => match P.underlying t, P.info? t, compX x with | some d, some i, some x => some (.load (aggD d) i.size x) | _, _, _ => none
  | .store t x y => match P.info? t, compX x, compX y with | some i, some x, some y => some (.store i.size x y) | _, _, _ => none
  | .nilCheck x => (compX x).map .nilchk
  | .fieldAddr s x k =>
    match P.underlying s, compX x with
    | some (.struct fs), some x => match fs[k]? with
      | some f => match P.info? f.type with
        | some i => if i.size = 0 then none else some (.fa f.offset x)
        | none => none
      | none => none
    | _, _ => none
  | .field s x k =>
    match P.underlying s, compX x with
    | some (.struct fs), some x => match fs[k]? with
      | some f => match P.underlying f.type, P.info? f.type with
        | some d, some i => some (.fld (aggD d) i.size f.offset x)
        | _, _ => none
      | none => none
    | _, _ => none
  | .indexAddr t x ix =>
    match P.underlying t, compX x, compX ix with
    | some (.slice e), some x, some ix => (P.info? e).map fun i => .ixS i.size x ix
    | some (.array n e), some x, some ix => (P.info? e).map fun i => .ixA n i.size x ix
    | _, _, _ => none
  | .extract x i => (compX x).map (.ext i)
  | .makeFunc f fi ca => match compXs fi.toList, compXs ca.toList with | some fi, some ca => some (.mkfn f fi ca) | _, _ => none
  | .build t parts =>
    match P.underlying t, P.info? t with
    | some (.struct fs), some i => match i.zero, placesOf P fs with
      | some z, some pl => match constA z, compParts (pl.toArray[·]?) parts.toList with
        | some (.agg zs), some ps => some (.bld zs ps)
        | _, _ => none
      | _, _ => none
    | some (.array _ e), some i => match i.zero, P.info? e with
      | some z, some ie => match constA z, compParts (fun k => some (k * ie.size, ie.size)) parts.toList with
        | some (.agg zs), some ps => some (.bld zs ps)
        | _, _ => none
      | _, _ => none
    | _, _ => none
  | .buildSlice t n parts =>
    match P.underlying t with
    | some (.slice e) => match P.info? e with
      | some i => match i.zero with
        | some z => match constL z.cells.toList, compParts (fun k => some (k * i.size, i.size)) parts.toList with
          | some zs, some ps => if n * i.size ≤ 16777216 ∧ zs.length = i.size ∧ 0 < i.size then some (.bldS e i.size n ((List.range (n * i.size)).map fun k => zs.getD (k % i.size) .dead) ps) else none
          | _, _ => none
        | none => none
      | none => none
    | _ => none
  | .makeSlice t l c =>
    match P.underlying t with
    | some (.slice e) => match P.info? e with
      | some i => match i.zero with
        | some z => match constL z.cells.toList, compX l, l, c with
          | some zs, some l, .tmp a, .tmp b => if a = b ∧ zs.length = i.size ∧ 0 < i.size then some (.mkS e i.size i.bytes zs l) else none
          | _, _, _, _ => none
        | none => none
      | none => none
    | _ => none
  | .call c =>
    match c.callee with
    | .value (.func f) => (compXs c.args.toList).map (.call f)
    | .value (.tmp t) => (compXs c.args.toList).map (.dyn (.t t))
    | .invoke r name =>
      match compX r, compXs c.args.toList with
      | some x, some as' => some (.inv (methTab P name) x as')
      | _, _ => none
    | .builtin .len =>
      match c.args.toList, c.argTypes.toList with
      | [x], [t] => match P.underlying t with
        | some (.slice _) => (compX x).map .len
        | some .string => (compX x).map .lenS
        | _ => none
      | _, _ => none
    | .builtin .append =>
      match c.args.toList, c.argTypes.toList with
      | [x, y], [t, u] => if t = u then
          match P.underlying t with
          | some (.slice e) => match P.info? e with
            | some i => match i.zero, compX x, compX y with
              | some z, some x, some y => if z.cells.size = i.size ∧ 0 < i.size then some (.app e i.size i.bytes x y) else none
              | _, _, _ => none
            | none => none
          | _ => none
        else match P.underlying t, P.underlying u with
          | some (.slice e), some (.int .i64) => match P.info? e with
            | some i => match i.zero with
              | some z => match constL z.cells.toList, compX x, compX y with
                | some zs, some x, some y => if zs.length = i.size ∧ 0 < i.size then some (.appN e i.size i.bytes zs x y) else none
                | _, _, _ => none
              | none => none
            | none => none
          | _, _ => none
      | _, _ => none
    | .builtin .cap =>
      match c.args.toList, c.argTypes.toList with
      | [x], [t] => match P.underlying t with
        | some (.slice _) => (compX x).map .cap
        | _ => none
      | _, _ => none
    | .builtin .clear =>
      match c.args.toList with
      | [x] => (compX x).map .clr
      | _ => none
    | .builtin .panic =>
      match c.args.toList with
      | [x] => (compX x).map .pan
      | _ => none
    | .builtin .max =>
      match c.args.toList with
      | [x, y] => match compX x, compX y with | some x, some y => some (.mm true x y) | _, _ => none
      | _ => none
    | .builtin .min =>
      match c.args.toList with
      | [x, y] => match compX x, compX y with | some x, some y => some (.mm false x y) | _, _ => none
      | _ => none
    | _ => none
  | .index t x ix =>
    match P.underlying t, compX x, compX ix with
    | some (.array n e), some x, some ix => match P.underlying e, P.info? e with
      | some d, some i => some (.ixV (aggD d) n i.size x ix)
      | _, _ => none
    | some .string, some x, some ix => some (.ixT x ix)
    | _, _, _ => none
  | .slice t x lo hi mx =>
    match compX x, mx with
    | some sx, none =>
      match P.underlying t, compO lo, compO hi with
      | some (.slice e), some lo, some hi => (P.info? e).map fun i => .slS i.size sx lo hi
      | some .string, some lo, some hi => some (.slT sx lo hi)
      | some (.array n e), some lo, some hi => (P.info? e).map fun i => .slA n i.size sx lo hi
      | _, _, _ => none
    | some sx, some mx =>
      match P.underlying t with
      | some (.slice e) => if lo.isNone && isZero hi && isZero (some mx) then (P.info? e).map fun i => .sl0 e i.size sx else none
      | _ => none
    | _, _ => none
  | .makeMap _ none => some .mkM
  | .range t x => match P.underlying t, compX x with | some .string, some x => some (.mkIt x) | some (.map _ _), some x => some (.mkItM x) | _, _ => none
  | .next x true => (compX x).map .nxt
  | .next x false => (compX x).map .nxm
  | .entry x => (compX x).map .ent
  | .lookup t x ix ok =>
    match P.underlying t, compX x, compX ix with
    | some (.map k e), some x, some ix =>
      match P.underlying k, leaves P 30 k, (P.info? e).bind (·.zero) with
      | some d, some l, some z => (constA z).map fun z => .look (aggD d) l z ok x ix
      | _, _, _ => none
    | _, _, _ => none
  | .mapUpdate t m k x | .insert t m k x =>
    match P.underlying t, compX m, compX k, compX x with
    | some (.map kt _), some m, some k, some x =>
      match P.underlying kt, leaves P 30 kt with
      | some d, some l => if coverB l = true then some (.putM (aggD d) l m k x) else none
      | _, _ => none
    | _, _, _, _ => none
  | .makeInterface t x =>
    match P.underlying t with
    | some (.interface _) => none
    | some _ => (compX x).map (.mkI t)
    | none => none
  | .typeAssert x _ t ok =>
    match P.underlying t with
    | some (.interface _) => none
    | some _ => match (P.info? t).bind (·.zero), compX x with
      | some z, some x => (constA z).map fun z => .asI t ok z x
      | _, _ => none
    | none => none
  | .panic x => (compX x).map .pan
  | _ => none

structure SOper where
  dst : Option Nat
  guard : Option (Nat × Bool)
  op : SOp

inductive SCode where
  | skip
  | reg (l : List SOper)
  | dreg (l : List SOper) (pre : List (List Nat))
  | seq (a b : SCode)
  | cond (c : SX) (a b : SCode)
  | block (id : Nat) (a : SCode)
  | loop (a : SCode)
  | rng (f : SX) (ps : List Nat) (a b : SCode)
  | scope (a : SCode)
  | exit (id : Nat)
  | ret

def dstOk (d : Option Nat) (n : Nat) : Bool := match d with | some d => decide (d < n) | none => true

def compOper (P : Program) (n : Nat) (all : Array Oper) (o : Oper) : Option SOper :=
  match compOp P o with
  | none => none
  | some s =>
    if dstOk o.dst n = true then
      match o.guard with
      | none => some ⟨o.dst, none, s⟩
      | some (j, b) => match (all[j]?).bind (·.dst) with
        | some t => some ⟨o.dst, some (t, b), s⟩
        | none => none
    else none

def compL (P : Program) (n : Nat) (all : Array Oper) : List Oper → Option (List SOper)
  | [] => some []
  | o :: r => match compOper P n all o, compL P n all r with | some s, some l => some (s :: l) | _, _ => none

def preOf (o : Oper) : List Nat := (o.after.toList.filter fun e => Region.binds .any e).map (·.on)

def compC (P : Program) (n : Nat) : Code → Option SCode
  | .skip => some .skip
  | .region _ ops false => (compL P n ops ops.toList).map .reg
  | .region _ ops true => (compL P n ops ops.toList).map fun l => .dreg l (ops.toList.map preOf)
  | .seq a b => match compC P n a, compC P n b with | some a, some b => some (.seq a b) | _, _ => none
  | .cond c a b => match compX c, compC P n a, compC P n b with | some c, some a, some b => some (.cond c a b) | _, _, _ => none
  | .block id a => (compC P n a).map (.block id)
  | .loop a => (compC P n a).map .loop
  | .rangeFunc f ps a b => match compX f, compC P n a, compC P n b with
    | some f, some a, some b => if ps.toList.all (fun p => decide (p < n)) = true then some (.rng f ps.toList a b) else none
    | _, _, _ => none
  | .scope a => (compC P n a).map .scope
  | .label _ => some .skip
  | .exit id => some (.exit id)
  | .ret => some .ret
  | _ => none

/-- The texts of a range over a function. -/
structure LoopC where
  ps : List Nat
  sa : SCode
  sb : SCode
  n : Nat

end Go.Av
set_option linter.unusedVariables false
set_option linter.unusedSimpArgs false
namespace Go.Av
open Go.RowKit

/-- How such a loop stands. -/
inductive LSt where
  | ready
  | busy
  | done (c : Code)

/-- What the call owns. -/
inductive AObj where
  | row (e g sz : Nat) (es : List (List AV))
  | map (es : List (AV × AV))
  | loop (c : LoopC) (st : LSt) (env : List (Nat × AV))
  | iter (s : ByteArray) (pos : Nat) (ml : Option (Option (AV × AV) × List (AV × AV)))
  | gone
  deriving Inhabited

/-- A tree stands for a value whose memory lies in the blocks S. -/
inductive VT (S : Nat → Prop) (w : World) : AV → Value → Prop
  | int (k n) : VT S w (.int k n) (.int k n)
  | bool (b) : VT S w (.bool b) (.bool b)
  | str (s) : VT S w (.str s) (.string s)
  | nilp : VT S w .nilp (.pointer none)
  | nilfn : VT S w .nilfn .nilFunc
  | nilif : VT S w .nilif .nilIface
  | nilmap : VT S w .nilmap (.map none)
  | nilsl : VT S w .nilsl (.slice none 0 0)
  | agg (cs : List AV) (vs : Array Value) : cs.length = vs.size → (∀ (i : Nat) c v, cs[i]? = some c → vs[i]? = some v → VT S w c v) → VT S w (.agg cs) (.agg vs)
  | tup (cs : List AV) (vs : Array Value) : cs.length = vs.size → (∀ (i : Nat) c v, cs[i]? = some c → vs[i]? = some v → VT S w c v) → VT S w (.tup cs) (.tuple vs)
  | sl (n : Nat) (f : Nat → List AV) (a : Option Addr) (cap : Nat) (val : Nat → Nat → Value) : n ≤ cap → cap ≤ maxLen →
      (0 < n → ∃ b o sz, a = some ⟨b, o, none⟩ ∧ S b ∧ ∀ i, i < n → (f i).length = sz ∧ ∀ j, j < sz → w.cell? ⟨b, o + (i * sz + j), none⟩ = some (val i j) ∧ (val i j).oneCell' = true) →
      (∀ i, i < n → ∀ j c, (f i)[j]? = some c → VT S w c (val i j)) → VT S w (.sl n f) (.slice a n cap)
  | fn (f : Fn) (fi ca : List AV) (vf vc : Array Value) : fi.length = vf.size → ca.length = vc.size → (∀ (i : Nat) c v, fi[i]? = some c → vf[i]? = some v → VT S w c v) →
      (∀ (i : Nat) c v, ca[i]? = some c → vc[i]? = some v → VT S w c v) → VT S w (.fn f fi ca) (.func f vf vc)
  | iface (t x v) : VT S w x v → VT S w (.iface t x) (.iface t v)
  | tptr (cs : List AV) (off : Nat) (b o : Nat) (val : Nat → Value) : S b → (∀ j, j < cs.length → w.cell? ⟨b, o + j, none⟩ = some (val j) ∧ (val j).oneCell' = true) → (∀ j c, cs[j]? = some c → VT S w c (val j)) →
      VT S w (.tptr cs off) (.pointer (some ⟨b, o + off, none⟩))

theorem cell_same {w w' : World} {b o : Nat} (h : w'.heap[b]? = w.heap[b]?) : w'.cell? ⟨b, o, none⟩ = w.cell? ⟨b, o, none⟩ := World.cell?_of_block (w := w) h

theorem VT.mono {S S' : Nat → Prop} {w w' : World} {x : AV} {v : Value} (h : VT S w x v) (hs : ∀ b, S b → S' b) (hw : ∀ b, S b → w'.heap[b]? = w.heap[b]?) : VT S' w' x v := by
  induction h with
  | int k n => exact .int k n
  | bool b => exact .bool b
  | str s => exact .str s
  | nilp => exact .nilp
  | nilfn => exact .nilfn
  | nilif => exact .nilif
  | nilmap => exact .nilmap
  | nilsl => exact .nilsl
  | agg cs vs hl _ ih => exact .agg cs vs hl ih
  | tup cs vs hl _ ih => exact .tup cs vs hl ih
  | sl n f a cap val h1 h2 h3 _ ih =>
    refine .sl n f a cap val h1 h2 (fun hn => ?_) ih
    obtain ⟨b, o, sz, e, hb, hc⟩ := h3 hn
    exact ⟨b, o, sz, e, hs b hb, fun i hi => ⟨(hc i hi).1, fun j hj => by rw [cell_same (hw b hb)]; exact (hc i hi).2 j hj⟩⟩
  | fn f fi ca vf vc h1 h2 _ _ ih1 ih2 => exact .fn f fi ca vf vc h1 h2 ih1 ih2
  | iface t x v _ ih => exact .iface t x v ih
  | tptr cs off b o val hb hc _ ih => exact .tptr cs off b o val (hs b hb) (fun j hj => by rw [cell_same (hw b hb)]; exact hc j hj) ih

/-- An abstract value stands for a value, handles by way of ρ. -/
inductive VR (μ : List AObj) (ρ : Nat → Option (Nat × Nat)) (S : Nat → Prop) (w : World) : AV → Value → Prop
  | t {x v} : VT S w x v → VR μ ρ S w x v
  | agg (cs : List AV) (vs : Array Value) : cs.length = vs.size → (∀ (i : Nat) c v, cs[i]? = some c → vs[i]? = some v → VR μ ρ S w c v) → VR μ ρ S w (.agg cs) (.agg vs)
  | tup (cs : List AV) (vs : Array Value) : cs.length = vs.size → (∀ (i : Nat) c v, cs[i]? = some c → vs[i]? = some v → VR μ ρ S w c v) → VR μ ρ S w (.tup cs) (.tuple vs)
  | fn (f : Fn) (fi ca : List AV) (vf vc : Array Value) : fi.length = vf.size → ca.length = vc.size → (∀ (i : Nat) c v, fi[i]? = some c → vf[i]? = some v → VR μ ρ S w c v) →
      (∀ (i : Nat) c v, ca[i]? = some c → vc[i]? = some v → VR μ ρ S w c v) → VR μ ρ S w (.fn f fi ca) (.func f vf vc)
  | iface (t x v) : VR μ ρ S w x v → VR μ ρ S w (.iface t x) (.iface t v)
  | hsl {id g sz len e es B cap} : μ[id]? = some (.row e g sz es) → len ≤ es.length → ρ id = some (B, cap) → VR μ ρ S w (.hsl id g sz len) (.slice (some ⟨B, 0, none⟩) len cap)
  | hsl0 {id g sz e es a} : μ[id]? = some (.row e g sz es) → ρ id = none → VR μ ρ S w (.hsl id g sz 0) (.slice a 0 0)
  | hslOld {id g sz len e g' sz' es} (v) : μ[id]? = some (.row e g' sz' es) → g < g' → VR μ ρ S w (.hsl id g sz len) v
  | hslGone {id g sz len} (v) : μ[id]? = some .gone → VR μ ρ S w (.hsl id g sz len) v
  | ptr {id g sz i off e es B cap} : μ[id]? = some (.row e g sz es) → i < es.length → ρ id = some (B, cap) → VR μ ρ S w (.ptr id g sz i off) (.pointer (some ⟨B, i * sz + off, none⟩))
  | ptrOld {id g sz i off e g' sz' es} (v) : μ[id]? = some (.row e g' sz' es) → g < g' → VR μ ρ S w (.ptr id g sz i off) v
  | ptrGone {id g sz i off} (v) : μ[id]? = some .gone → VR μ ρ S w (.ptr id g sz i off) v
  | mp {id es B cap} : μ[id]? = some (.map es) → ρ id = some (B, cap) → VR μ ρ S w (.mp id) (.map (some B))
  | mpI {id s pos ml B cap} : μ[id]? = some (.iter s pos ml) → ρ id = some (B, cap) → VR μ ρ S w (.mp id) (.pointer (some ⟨B, 0, none⟩))
  | mpGone {id} (v) : μ[id]? = some .gone → VR μ ρ S w (.mp id) v
  | yl {id c st env B cap} : μ[id]? = some (.loop c st env) → ρ id = some (B, cap) → VR μ ρ S w (.yl id) (.func (.yield B) #[] #[])
  | ylGone {id} (v) : μ[id]? = some .gone → VR μ ρ S w (.yl id) v
  | dead (v) : VR μ ρ S w .dead v

/-- What may become of an object. -/
def ObjTo (o o' : AObj) (r r' : Option (Nat × Nat)) : Prop :=
  match o, o' with
  | _, .gone => True
  | .row e g sz es, .row e' g' sz' es' => g < g' ∨ (e' = e ∧ g' = g ∧ sz' = sz ∧ es.length ≤ es'.length ∧ r' = r)
  | .map _, .map _ => r' = r
  | .iter _ _ _, .iter _ _ _ => r' = r
  | .loop c _ _, .loop c' _ _ => r' = r ∧ c' = c
  | _, _ => False

/-- Nothing that is owned lies in the block. -/
def NoOwn (μ : List AObj) (ρ : Nat → Option (Nat × Nat)) (b : Nat) : Prop := ∀ (id : Nat) (o : AObj) (c : Nat), μ[id]? = some o → o ≠ .gone → ρ id ≠ some (b, c)

theorem NoOwn.snoc {μ : List AObj} {ρ : Nat → Option (Nat × Nat)} {b : Nat} {o : AObj} {x : Option (Nat × Nat)} (h : NoOwn μ ρ b) (hx : ∀ c, x ≠ some (b, c)) : NoOwn (μ ++ [o]) (fun i => if i = μ.length then x else ρ i) b := by
  intro id p c hi hne
  by_cases hid : id = μ.length
  · simp only [hid, if_true]; exact hx c
  · simp only [hid, if_false]
    have hlt := (List.getElem?_eq_some_iff.1 hi).1
    simp only [List.length_append, List.length_cons, List.length_nil] at hlt
    rw [List.getElem?_append_left (by omega)] at hi
    exact h id p c hi hne

theorem NoOwn.set {μ : List AObj} {ρ : Nat → Option (Nat × Nat)} {b id : Nat} {o : AObj} (h : NoOwn μ ρ b) (hx : o = .gone ∨ ∀ c, ρ id ≠ some (b, c)) : NoOwn (μ.set id o) ρ b := by
  intro i p c hi hne
  by_cases hid : i = id
  · subst hid
    have hlt := (List.getElem?_eq_some_iff.1 hi).1
    simp at hlt
    rw [List.getElem?_set_self hlt] at hi
    cases hi
    rcases hx with rfl | hx
    · exact absurd rfl hne
    · exact hx c
  · rw [List.getElem?_set_ne (Ne.symm hid)] at hi
    exact h i p c hi hne

theorem NoOwn.take {μ : List AObj} {ρ : Nat → Option (Nat × Nat)} {b k : Nat} (h : NoOwn μ ρ b) : NoOwn (μ.take k) ρ b := by
  intro i p c hi hne
  rw [List.getElem?_take] at hi
  split at hi
  · exact h i p c hi hne
  · cases hi

structure Stab (μ : List AObj) (ρ : Nat → Option (Nat × Nat)) (S : Nat → Prop) (w : World) (μ' : List AObj) (ρ' : Nat → Option (Nat × Nat)) (S' : Nat → Prop) (w' : World) : Prop where
  sub : ∀ b, S b → S' b
  blk : ∀ b, S b → w'.heap[b]? = w.heap[b]?
  obj : ∀ id o, μ[id]? = some o → ∃ o', μ'[id]? = some o' ∧ ObjTo o o' (ρ id) (ρ' id)
  size : w.heap.size ≤ w'.heap.size
  col : ∀ b, ¬ S b → w.heap[b]? = some (.deferred (some [])) → w'.heap[b]? = some (.deferred (some [])) ∧ ¬ S' b
  fr : ∀ b, b < w.heap.size → ¬ S b → NoOwn μ ρ b → w'.heap[b]? = w.heap[b]? ∧ ¬ S' b ∧ NoOwn μ' ρ' b

structure Stab0 (μ : List AObj) (ρ : Nat → Option (Nat × Nat)) (S : Nat → Prop) (w : World) (μ' : List AObj) (ρ' : Nat → Option (Nat × Nat)) (S' : Nat → Prop) (w' : World) : Prop where
  sub : ∀ b, S b → S' b
  blk : ∀ b, S b → w'.heap[b]? = w.heap[b]?
  obj : ∀ id o, μ[id]? = some o → ∃ o', μ'[id]? = some o' ∧ ObjTo o o' (ρ id) (ρ' id)

theorem Stab.to0 {μ ρ S w μ' ρ' S' w'} (h : Stab μ ρ S w μ' ρ' S' w') : Stab0 μ ρ S w μ' ρ' S' w' := ⟨h.sub, h.blk, h.obj⟩

theorem ObjTo.refl (o : AObj) (r : Option (Nat × Nat)) : ObjTo o o r r := by
  cases o <;> simp [ObjTo]

theorem ObjTo.trans {a b c : AObj} {r r' r'' : Option (Nat × Nat)} (h : ObjTo a b r r') (k : ObjTo b c r' r'') : ObjTo a c r r'' := by
  cases a <;> cases b <;> cases c <;> simp only [ObjTo] at * <;> first | trivial | (exact k.trans h) | (exact ⟨k.1.trans h.1, k.2.trans h.2⟩) | skip
  rcases h with h | ⟨rfl, rfl, rfl, h1, rfl⟩ <;> rcases k with k | ⟨rfl, rfl, rfl, k1, rfl⟩
  · exact .inl (by omega)
  · exact .inl h
  · exact .inl k
  · exact .inr ⟨rfl, rfl, rfl, Nat.le_trans h1 k1, rfl⟩

theorem Stab.refl (μ : List AObj) (ρ S) (w : World) : Stab μ ρ S w μ ρ S w := ⟨fun _ h => h, fun _ _ => rfl, fun id o h => ⟨o, h, ObjTo.refl o _⟩, Nat.le_refl _, fun _ h1 h2 => ⟨h2, h1⟩, fun _ _ h1 h2 => ⟨rfl, h1, h2⟩⟩

theorem Stab.trans {μ ρ S w μ' ρ' S' w' μ'' ρ'' S'' w''} (h : Stab μ ρ S w μ' ρ' S' w') (k : Stab μ' ρ' S' w' μ'' ρ'' S'' w'') : Stab μ ρ S w μ'' ρ'' S'' w'' :=
  ⟨fun b hb => k.sub b (h.sub b hb), fun b hb => (k.blk b (h.sub b hb)).trans (h.blk b hb), fun id o ho => by
    obtain ⟨o', h1, h2⟩ := h.obj id o ho
    obtain ⟨o'', h3, h4⟩ := k.obj id o' h1
    exact ⟨o'', h3, h2.trans h4⟩, Nat.le_trans h.size k.size, fun b h1 h2 => (h.col b h1 h2).elim fun h3 h4 => k.col b h4 h3, fun b hb h1 h2 =>
    let ⟨a1, a2, a3⟩ := h.fr b hb h1 h2
    let ⟨c1, c2, c3⟩ := k.fr b (Nat.lt_of_lt_of_le hb h.size) a2 a3
    ⟨c1.trans a1, c2, c3⟩⟩

theorem VR.stab0 {μ ρ S w μ' ρ' S' w'} {x : AV} {v : Value} (h : VR μ ρ S w x v) (k : Stab0 μ ρ S w μ' ρ' S' w') : VR μ' ρ' S' w' x v := by
  induction h with
  | t h => exact .t (h.mono k.sub k.blk)
  | agg cs vs hl _ ih => exact .agg cs vs hl ih
  | tup cs vs hl _ ih => exact .tup cs vs hl ih
  | fn f fi ca vf vc h1 h2 _ _ ih1 ih2 => exact .fn f fi ca vf vc h1 h2 ih1 ih2
  | iface t x v _ ih => exact .iface t x v ih
  | @hsl id g sz len e es B cap h1 h2 h3 =>
    obtain ⟨o', h4, h5⟩ := k.obj id _ h1
    cases o' with
    | gone => exact .hslGone _ h4
    | map _ => simp [ObjTo] at h5
    | iter _ _ _ => simp [ObjTo] at h5
    | loop _ _ _ => simp [ObjTo] at h5
    | row e' g' sz' es' =>
      rcases h5 with h5 | ⟨rfl, rfl, rfl, h6, h7⟩
      · exact .hslOld _ h4 h5
      · exact .hsl h4 (Nat.le_trans h2 h6) (h7.trans h3)
  | @hsl0 id g sz e es a h1 h3 =>
    obtain ⟨o', h4, h5⟩ := k.obj id _ h1
    cases o' with
    | gone => exact .hslGone _ h4
    | map _ => simp [ObjTo] at h5
    | iter _ _ _ => simp [ObjTo] at h5
    | loop _ _ _ => simp [ObjTo] at h5
    | row e' g' sz' es' =>
      rcases h5 with h5 | ⟨rfl, rfl, rfl, h6, h7⟩
      · exact .hslOld _ h4 h5
      · exact .hsl0 h4 (h7.trans h3)
  | @hslOld id g sz len e g' sz' es v h1 h2 =>
    obtain ⟨o', h4, h5⟩ := k.obj id _ h1
    cases o' with
    | gone => exact .hslGone _ h4
    | map _ => simp [ObjTo] at h5
    | iter _ _ _ => simp [ObjTo] at h5
    | loop _ _ _ => simp [ObjTo] at h5
    | row e2 g2 sz2 es2 => rcases h5 with h5 | ⟨rfl, rfl, rfl, h6, h7⟩ <;> exact .hslOld _ h4 (by omega)
  | @hslGone id g sz len v h1 =>
    obtain ⟨o', h4, h5⟩ := k.obj id _ h1
    cases o' <;> simp [ObjTo] at h5
    exact .hslGone _ h4
  | @ptr id g sz i off e es B cap h1 h2 h3 =>
    obtain ⟨o', h4, h5⟩ := k.obj id _ h1
    cases o' with
    | gone => exact .ptrGone _ h4
    | map _ => simp [ObjTo] at h5
    | iter _ _ _ => simp [ObjTo] at h5
    | loop _ _ _ => simp [ObjTo] at h5
    | row e' g' sz' es' =>
      rcases h5 with h5 | ⟨rfl, rfl, rfl, h6, h7⟩
      · exact .ptrOld _ h4 h5
      · exact .ptr h4 (Nat.lt_of_lt_of_le h2 h6) (h7.trans h3)
  | @ptrOld id g sz i off e g' sz' es v h1 h2 =>
    obtain ⟨o', h4, h5⟩ := k.obj id _ h1
    cases o' with
    | gone => exact .ptrGone _ h4
    | map _ => simp [ObjTo] at h5
    | iter _ _ _ => simp [ObjTo] at h5
    | loop _ _ _ => simp [ObjTo] at h5
    | row e2 g2 sz2 es2 => rcases h5 with h5 | ⟨rfl, rfl, rfl, h6, h7⟩ <;> exact .ptrOld _ h4 (by omega)
  | @ptrGone id g sz i off v h1 =>
    obtain ⟨o', h4, h5⟩ := k.obj id _ h1
    cases o' <;> simp [ObjTo] at h5
    exact .ptrGone _ h4
  | @mp id es B cap h1 h3 =>
    obtain ⟨o', h4, h5⟩ := k.obj id _ h1
    cases o' with
    | gone => exact .mpGone _ h4
    | row _ _ _ _ => simp [ObjTo] at h5
    | loop _ _ _ => simp [ObjTo] at h5
    | iter _ _ _ => simp [ObjTo] at h5
    | map es' => exact .mp h4 ((show ρ' id = ρ id from h5).trans h3)
  | @mpI id s pos ml B cap h1 h3 =>
    obtain ⟨o', h4, h5⟩ := k.obj id _ h1
    cases o' with
    | gone => exact .mpGone _ h4
    | row _ _ _ _ => simp [ObjTo] at h5
    | map _ => simp [ObjTo] at h5
    | loop _ _ _ => simp [ObjTo] at h5
    | iter s' pos' ml' => exact .mpI h4 ((show ρ' id = ρ id from h5).trans h3)
  | @mpGone id v h1 =>
    obtain ⟨o', h4, h5⟩ := k.obj id _ h1
    cases o' <;> simp [ObjTo] at h5
    exact .mpGone _ h4
  | @yl id c st env B cap h1 h3 =>
    obtain ⟨o', h4, h5⟩ := k.obj id _ h1
    cases o' with
    | gone => exact .ylGone _ h4
    | row _ _ _ _ => simp [ObjTo] at h5
    | map _ => simp [ObjTo] at h5
    | iter _ _ _ => simp [ObjTo] at h5
    | loop c' st' env' => exact .yl h4 (h5.1.trans h3)
  | @ylGone id v h1 =>
    obtain ⟨o', h4, h5⟩ := k.obj id _ h1
    cases o' <;> simp [ObjTo] at h5
    exact .ylGone _ h4
  | dead v => exact .dead v

theorem Stab0.refl (μ : List AObj) (ρ S) (w : World) : Stab0 μ ρ S w μ ρ S w := (Stab.refl μ ρ S w).to0

theorem Stab0.trans {μ ρ S w μ' ρ' S' w' μ'' ρ'' S'' w''} (h : Stab0 μ ρ S w μ' ρ' S' w') (k : Stab0 μ' ρ' S' w' μ'' ρ'' S'' w'') : Stab0 μ ρ S w μ'' ρ'' S'' w'' :=
  ⟨fun b hb => k.sub b (h.sub b hb), fun b hb => (k.blk b (h.sub b hb)).trans (h.blk b hb), fun id o ho => by
    obtain ⟨o', h1, h2⟩ := h.obj id o ho
    obtain ⟨o'', h3, h4⟩ := k.obj id o' h1
    exact ⟨o'', h3, h2.trans h4⟩⟩

theorem VR.stab {μ ρ S w μ' ρ' S' w'} {x : AV} {v : Value} (h : VR μ ρ S w x v) (k : Stab μ ρ S w μ' ρ' S' w') : VR μ' ρ' S' w' x v := h.stab0 k.to0

/-- What a run is about: the program, the world in which it began, what holds of package variables. -/
structure Ctx where
  P : Program
  w0 : World
  S0 : Nat → Prop
  G : World → Prop
  hG : ∀ w, Below w0.heap.size w0 w → G w

/-- A block's cells, none of which is shared with a text. -/
def Cel (w : World) (B : Nat) (cur : Array Value) (e : TypeId) : Prop := ∃ mk : Nat × Nat, w.heap[B]? = some (.cells cur e mk) ∧ (mk.1 = mk.2 ∨ cur.size ≤ mk.1)
theorem Cel.of {w : World} {B : Nat} {cur : Array Value} {e : TypeId} (h : w.heap[B]? = some (.cells cur e (0, 0))) : Cel w B cur e := ⟨_, h, .inl rfl⟩
theorem Cel.lt {w : World} {B : Nat} {cur : Array Value} {e : TypeId} (h : Cel w B cur e) : B < w.heap.size := by
  obtain ⟨_, h, _⟩ := h
  exact (Array.getElem?_eq_some_iff.1 h).1
theorem Cel.heap {w w' : World} {B : Nat} {cur : Array Value} {e : TypeId} (h : Cel w B cur e) (hb : w'.heap[B]? = w.heap[B]?) : Cel w' B cur e := by
  obtain ⟨mk, h, hm⟩ := h
  exact ⟨mk, hb.trans h, hm⟩
theorem Cel.cell {w : World} {B : Nat} {cur : Array Value} {e : TypeId} (h : Cel w B cur e) (j : Nat) : w.cell? ⟨B, j, none⟩ = cur[j]? := by
  obtain ⟨mk, h, hm⟩ := h
  exact cell_of_row w _ _ cur _ mk h
theorem Cel.set {w : World} {B : Nat} {cur cur' : Array Value} {e : TypeId} (h : Cel w B cur e) (hs : cur'.size = cur.size) : Cel (w.setRow B cur') B cur' e := by
  obtain ⟨mk, h, hm⟩ := h
  exact ⟨mk, setRow_heap w B cur cur' e mk h, by rw [hs]; exact hm⟩
theorem Cel.self {w : World} {B : Nat} {cur : Array Value} {e : TypeId} (h : Cel w B cur e) : w.setRow B cur = w := by
  obtain ⟨mk, h, hm⟩ := h
  exact setRow_self w B cur e mk h
theorem Cel.free {w : World} {B : Nat} {cur : Array Value} {e : TypeId} (h : Cel w B cur e) {j : Nat} (hj : j < cur.size) : w.frozen? ⟨B, j, none⟩ = false := by
  obtain ⟨⟨lo, hi⟩, h, hm⟩ := h
  simp only [World.frozen?, h]
  simp only at hm
  by_cases c : lo ≤ j <;> simp [c] <;> omega
/-- Cells are written, one after the other. -/
theorem Cel.store {P : Program} {B o : Nat} {e : TypeId} : ∀ (vs : List Value) (k : Nat) (cur : Array Value) (w : World), Cel w B cur e → o + k + vs.length ≤ cur.size → (∀ v ∈ vs, v.oneCell' = true) →
    (storeCells ⟨B, o, none⟩ vs k).run P w = .ok () (w.setRow B (cur.toList.take (o + k) ++ vs ++ cur.toList.drop (o + k + vs.length)).toArray)
  | [], k, cur, w, h, _, _ => by
    have e1 : (cur.toList.take (o + k) ++ [] ++ cur.toList.drop (o + k + ([] : List Value).length)).toArray = cur := by simp
    rw [e1, h.self]
    rfl
  | v :: vs, k, cur, w, h, hl, h1 => by
    rw [List.length_cons] at hl
    have hj : o + k < cur.size := by omega
    have hadd : (⟨B, o, none⟩ : Addr).add k = ⟨B, o + k, none⟩ := Addr.add_lit ..
    have hone : (Go.store ((⟨B, o, none⟩ : Addr).add k) v).run P w = .ok () (w.setRow B (cur.setIfInBounds (o + k) v)) := by
      rw [hadd, run_store P w _ v _ (h1 v List.mem_cons_self), h.cell, Array.getElem?_eq_getElem hj]
      obtain ⟨mk, h', hm⟩ := id h
      simp [h.free hj, setCell_eq_setRow w B (o + k) cur e mk v h']
    have hset : Cel (w.setRow B (cur.setIfInBounds (o + k) v)) B (cur.setIfInBounds (o + k) v) e := h.set (by simp)
    have ih := Cel.store (P := P) (o := o) vs (k + 1) _ _ hset (by simp; omega) fun u hu => h1 u (List.mem_cons_of_mem _ hu)
    simp only [storeCells, Sem.run_bind, hone, Result.andThen_ok, ih, setRow_setRow]
    congr 3
    have := list_seg_step cur.toList (o + k) v vs (by simp; omega)
    simpa [Array.toList_setIfInBounds, Nat.add_assoc] using this
/-- There is room: what is appended is written behind what is there. -/
theorem Cel.room {P : Program} {w : World} {B : Nat} {cur : Array Value} (t ty e : TypeId) (i : TypeInfo) (ht : P.underlying t = some (.slice e)) (hi : P.info? e = some i) {n cap : Nat} (h : Cel w B cur e) (a : Addr) (m c : Nat) (news : List Value) (hl : news.length = m * i.size)
    (hnews : ∀ j u, news[j]? = some u → w.cell? (a.add j) = some u) (h1 : ∀ u ∈ news, u.oneCell' = true) (hroom : n + m ≤ cap) (hfit : n * i.size + news.length ≤ cur.size) :
    (Builtin.append_ #[t, t] ty #[.slice (some ⟨B, 0, none⟩) n cap, .slice (some a) m c]).run P w = .ok (.slice (some ⟨B, 0, none⟩) (n + m) cap) (w.setRow B (cur.toList.take (n * i.size) ++ news ++ cur.toList.drop (n * i.size + news.length)).toArray) := by
  have q1 := run_firstCells_some (P := P) w i.size m a m c news hl hnews
  have q2 := Cel.store (P := P) (o := n * i.size) news 0 cur w h (by simpa using hfit) h1
  simp only [Nat.add_zero] at q2
  simp [Builtin.append_, run_underlying ht, sizeOf, typeInfo, hi, Builtin.lenOf, hroom, q1, Addr.add_lit, q2]
theorem perm_erase {α : Type} : ∀ {l : List α} {i : Nat} {a : α}, l[i]? = some a → l.Perm (a :: l.eraseIdx i)
  | [], i, a, h => by simp at h
  | b :: l, 0, a, h => by simp at h; subst h; exact .refl _
  | b :: l, i + 1, a, h => by
    have := perm_erase (l := l) (i := i) (a := a) (by simpa using h)
    exact (this.cons b).trans (.swap a b _)
theorem perm_setP {α : Type} : ∀ {l : List α} {i : Nat} {a b : α}, l[i]? = some a → (l.set i b).Perm (b :: l.eraseIdx i)
  | [], i, a, b, h => by simp at h
  | c :: l, 0, a, b, h => .refl _
  | c :: l, i + 1, a, b, h => by
    have := perm_setP (l := l) (i := i) (a := a) (b := b) (by simpa using h)
    exact (this.cons c).trans (.swap b c _)
theorem perm_eraseIdx {α : Type} {l l' : List α} {i j : Nat} {a : α} (h : l'.Perm l) (h1 : l'[i]? = some a) (h2 : l[j]? = some a) : (l'.eraseIdx i).Perm (l.eraseIdx j) :=
  (((perm_erase h1).symm.trans h).trans (perm_erase h2)).cons_inv
theorem perm_set {α : Type} {l l' : List α} {i j : Nat} {a b : α} (h : l'.Perm l) (h1 : l'[i]? = some a) (h2 : l[j]? = some a) : (l'.set i b).Perm (l.set j b) :=
  ((perm_setP h1).trans ((perm_eraseIdx h h1 h2).cons b)).trans (perm_setP h2).symm
/-- A map's entries, each with a stamp of its own. -/
def BornOK (ents : Array MapEntry) (clock : Nat) : Prop := (∀ (i : Nat) en, ents[i]? = some en → en.born < clock) ∧ ∀ (i j : Nat) en en', ents[i]? = some en → ents[j]? = some en' → en.born = en'.born → i = j
theorem BornOK.modify {ents : Array MapEntry} {clock : Nat} (h : BornOK ents clock) (q : Nat) (f : MapEntry → MapEntry) (hf : ∀ e, (f e).born = e.born) : BornOK (ents.modify q f) clock := by
  have back : ∀ (i : Nat) en, (ents.modify q f)[i]? = some en → ∃ e, ents[i]? = some e ∧ e.born = en.born := fun i en hi => by
    rw [Array.getElem?_modify] at hi
    split at hi
    · simp only [Option.map_eq_some_iff] at hi
      obtain ⟨e, h1, rfl⟩ := hi
      exact ⟨e, h1, (hf e).symm⟩
    · exact ⟨en, hi, rfl⟩
  refine ⟨fun i en hi => ?_, fun i j en en' hi hj hb => ?_⟩
  · obtain ⟨e, h1, h2⟩ := back i en hi
    rw [← h2]; exact h.1 i e h1
  · obtain ⟨e, h1, h2⟩ := back i en hi
    obtain ⟨e', h3, h4⟩ := back j en' hj
    exact h.2 i j e e' h1 h3 (by rw [h2, h4, hb])
theorem BornOK.push {ents : Array MapEntry} {clock : Nat} (h : BornOK ents clock) (e : MapEntry) (he : e.born = clock) : BornOK (ents.push e) (clock + 1) := by
  refine ⟨fun i en hi => ?_, fun i j en en' hi hj hb => ?_⟩
  · rw [Array.getElem?_push] at hi
    split at hi
    · cases hi; omega
    · have := h.1 i en hi; omega
  · rw [Array.getElem?_push] at hi hj
    split at hi <;> split at hj
    · omega
    · cases hi; have := h.1 j en' hj; omega
    · cases hj; have := h.1 i en hi; omega
    · exact h.2 i j en en' hi hj hb
/-- How an iterator stands: over a text; or over a map that nothing turns any longer, with what is left. -/
def ItAt (S : Nat → Prop) (w : World) (B : Nat) (s : ByteArray) (pos : Nat) : Option (Option (AV × AV) × List (AV × AV)) → Prop
  | none => w.heap[B]? = some (.stringIter s pos)
  | some (last, left) => ∃ mB ents clock seen, S mB ∧ w.heap[mB]? = some (.map ents clock) ∧ BornOK ents clock ∧ w.heap[B]? = some (.mapIter (some mB) clock seen clock) ∧
      (∃ (ks : List Nat) (lf : List (AV × AV)), lf.Perm left ∧ ks.length = lf.length ∧ ks.Nodup ∧ (∀ (i : Nat) en, ents[i]? = some en → (seen.contains en.born = false ↔ i ∈ ks)) ∧
        ∀ (t i : Nat) (k v : AV), ks[t]? = some i → lf[t]? = some (k, v) → ∃ en : MapEntry, ents[i]? = some en ∧ VT S w k en.key ∧ VT S w v en.val) ∧
      ∀ k v, last = some (k, v) → ∃ (seen0 : Array Nat) (en : MapEntry), seen = seen0.push en.born ∧ en ∈ ents.toList ∧ VT S w k en.key ∧ VT S w v en.val
theorem ItAt.keep {S S' : Nat → Prop} {w w' : World} {B : Nat} {s : ByteArray} {pos : Nat} {ml : Option (Option (AV × AV) × List (AV × AV))} (h : ItAt S w B s pos ml) (hs : ∀ b, S b → S' b) (hw : ∀ b, S b → w'.heap[b]? = w.heap[b]?) (hB : w'.heap[B]? = w.heap[B]?) : ItAt S' w' B s pos ml := by
  match ml with
  | none => exact hB.trans h
  | some (last, left) =>
    obtain ⟨mB, ents, clock, seen, h1, h2, h3, h5, ⟨ks, lf, h11, h6, h7, h8, h9⟩, h10⟩ := h
    refine ⟨mB, ents, clock, seen, hs _ h1, (hw _ h1).trans h2, h3, hB.trans h5, ⟨ks, lf, h11, h6, h7, h8, fun t i k v a b => ?_⟩, fun k v e => ?_⟩
    · obtain ⟨en, e1, e2, e3⟩ := h9 t i k v a b
      exact ⟨en, e1, e2.mono hs hw, e3.mono hs hw⟩
    · obtain ⟨seen0, en, e0, e1, e2, e3⟩ := h10 k v e
      exact ⟨seen0, en, e0, e1, e2.mono hs hw, e3.mono hs hw⟩
theorem ItAt.obj {S : Nat → Prop} {w : World} {B : Nat} {s : ByteArray} {pos : Nat} {ml : Option (Option (AV × AV) × List (AV × AV))} (h : ItAt S w B s pos ml) : (∃ a b, w.heap[B]? = some (.stringIter a b)) ∨ ∃ a b c d, w.heap[B]? = some (.mapIter a b c d) := by
  match ml with
  | none => exact .inl ⟨_, _, h⟩
  | some (last, left) =>
    obtain ⟨mB, ents, clock, seen, h1, h2, h3, h5, _⟩ := h
    exact .inr ⟨_, _, _, _, h5⟩
theorem ItAt.lt {S : Nat → Prop} {w : World} {B : Nat} {s : ByteArray} {pos : Nat} {ml : Option (Option (AV × AV) × List (AV × AV))} (h : ItAt S w B s pos ml) : B < w.heap.size := by
  rcases h.obj with ⟨a, b, h⟩ | ⟨a, b, c, d, h⟩ <;> exact (Array.getElem?_eq_some_iff.1 h).1
/-- One object and its block. -/
def OR (K : Ctx) (ρ : Nat → Option (Nat × Nat)) (S : Nat → Prop) (μ : List AObj) (w : World) (id : Nat) : AObj → Prop
  | .gone => True
  | .row e g sz es =>
    (ρ id = none ∧ es = []) ∨
    ∃ B cap cur, ρ id = some (B, cap) ∧ K.w0.heap.size ≤ B ∧ ¬ S B ∧ Cel w B cur e ∧ cur.size = cap * sz ∧ es.length ≤ cap ∧ cap ≤ maxLen ∧
      ∀ i cs, es[i]? = some cs → cs.length = sz ∧ ∀ j c, cs[j]? = some c → ∃ v, cur[i * sz + j]? = some v ∧ VR μ ρ S w c v ∧ v.oneCell' = true
  | .map es =>
    ∃ B cap ents clock, ρ id = some (B, cap) ∧ K.w0.heap.size ≤ B ∧ ¬ S B ∧ w.heap[B]? = some (.map ents clock) ∧ ∃ es' : List (AV × AV), es'.Perm es ∧ (ents.size = es'.length ∧ BornOK ents clock) ∧
      ∀ (i : Nat) (k v : AV), es'[i]? = some (k, v) → ∃ en : MapEntry, ents[i]? = some en ∧ VT S w k en.key ∧ VR μ ρ S w v en.val
  | .loop c st env =>
    ∃ B cap rec, ρ id = some (B, cap) ∧ K.w0.heap.size ≤ B ∧ ¬ S B ∧ w.heap[B]? = some (.loop rec) ∧
      (match st with
        | .ready => rec.state = .ready ∧ rec.pending = none
        | .busy => rec.state = .busy
        | .done cd => rec.state = .done ∧ rec.pending = some cd) ∧
      rec.params = c.ps.toArray ∧ compC K.P c.n rec.assign = some c.sa ∧ compC K.P c.n rec.body = some c.sb ∧ rec.tmps.size = c.n ∧ ∀ t, VR μ ρ S w (getE env t) (rec.tmps.getD t undef)
  | .iter s pos ml => ∃ B cap, ρ id = some (B, cap) ∧ K.w0.heap.size ≤ B ∧ ¬ S B ∧ ItAt S w B s pos ml

structure RepMu (K : Ctx) (ρ : Nat → Option (Nat × Nat)) (S : Nat → Prop) (μ : List AObj) (w : World) : Prop where
  below : Below K.w0.heap.size K.w0 w
  st : ∀ b, S b → b < w.heap.size
  own : ∀ b, S b → b < K.w0.heap.size → K.S0 b
  ob : ∀ id o, μ[id]? = some o → OR K ρ S μ w id o
  inj : ∀ id id' o o' B c c', μ[id]? = some o → μ[id']? = some o' → o ≠ .gone → o' ≠ .gone → ρ id = some (B, c) → ρ id' = some (B, c') → id = id'

theorem RepMu.size {K ρ S μ w} (h : RepMu K ρ S μ w) : K.w0.heap.size ≤ w.heap.size := h.below.size

theorem OR.stab0 {K : Ctx} {ρ S μ w ρ' S' μ' w'} {id : Nat} {o : AObj} (h : OR K ρ S μ w id o) (k : Stab0 μ ρ S w μ' ρ' S' w') (hr : ρ' id = ρ id)
    (hB : ∀ B c, ρ id = some (B, c) → o ≠ .gone → ¬ S' B ∧ w'.heap[B]? = w.heap[B]?) : OR K ρ' S' μ' w' id o := by
  cases o with
  | gone => trivial
  | row e g sz es =>
    rcases h with ⟨h1, h2⟩ | ⟨B, cap, cur, h1, h2, h3, h4, h5, h6, h7, h8⟩
    · exact .inl ⟨hr.trans h1, h2⟩
    · obtain ⟨b1, b2⟩ := hB B cap h1 (by simp)
      refine .inr ⟨B, cap, cur, hr.trans h1, h2, b1, h4.heap b2, h5, h6, h7, fun i cs hi => ⟨(h8 i cs hi).1, fun j c hj => ?_⟩⟩
      obtain ⟨v, v1, v2, v3⟩ := (h8 i cs hi).2 j c hj
      exact ⟨v, v1, v2.stab0 k, v3⟩
  | map es =>
    obtain ⟨B, cap, ents, clock, h1, h2, h3, h4, es', h7, h5, h6⟩ := h
    obtain ⟨b1, b2⟩ := hB B cap h1 (by simp)
    refine ⟨B, cap, ents, clock, hr.trans h1, h2, b1, b2.trans h4, es', h7, h5, fun i k' v hi => ?_⟩
    obtain ⟨en, e1, e2, e3⟩ := h6 i k' v hi
    exact ⟨en, e1, e2.mono k.sub k.blk, e3.stab0 k⟩
  | loop c st env =>
    obtain ⟨B, cap, rec, h1, h2, h3, h4, h5, h6, h7, h8, h9, h10⟩ := h
    obtain ⟨b1, b2⟩ := hB B cap h1 (by simp)
    exact ⟨B, cap, rec, hr.trans h1, h2, b1, b2.trans h4, h5, h6, h7, h8, h9, fun t => (h10 t).stab0 k⟩
  | iter s pos ml =>
    obtain ⟨B, cap, h1, h2, h3, h4⟩ := h
    obtain ⟨b1, b2⟩ := hB B cap h1 (by simp)
    exact ⟨B, cap, hr.trans h1, h2, b1, h4.keep k.sub k.blk b2⟩

theorem RepMu.next0 {K : Ctx} {ρ S μ w ρ' S' μ' w'} (h : RepMu K ρ S μ w) (hb : Below K.w0.heap.size K.w0 w') (st : ∀ b, S' b → b < w'.heap.size) (own : ∀ b, S' b → b < K.w0.heap.size → K.S0 b) (k : Stab0 μ ρ S w μ' ρ' S' w')
    (ob : ∀ id o, μ'[id]? = some o → (μ[id]? = some o ∧ ρ' id = ρ id ∧ ∀ B c, ρ id = some (B, c) → o ≠ .gone → ¬ S' B ∧ w'.heap[B]? = w.heap[B]?) ∨ OR K ρ' S' μ' w' id o)
    (inj : ∀ id id' o o' B c c', μ'[id]? = some o → μ'[id']? = some o' → o ≠ .gone → o' ≠ .gone → ρ' id = some (B, c) → ρ' id' = some (B, c') → id = id') : RepMu K ρ' S' μ' w' :=
  ⟨hb, st, own, fun id o ho => (ob id o ho).elim (fun ⟨h1, h2, h3⟩ => (h.ob id o h1).stab0 k h2 h3) (fun h => h), inj⟩

theorem RepMu.next {K : Ctx} {ρ S μ w ρ' S' μ' w'} (h : RepMu K ρ S μ w) (hb : Below K.w0.heap.size K.w0 w') (st : ∀ b, S' b → b < w'.heap.size) (own : ∀ b, S' b → b < K.w0.heap.size → K.S0 b) (k : Stab μ ρ S w μ' ρ' S' w')
    (ob : ∀ id o, μ'[id]? = some o → (μ[id]? = some o ∧ ρ' id = ρ id ∧ ∀ B c, ρ id = some (B, c) → o ≠ .gone → ¬ S' B ∧ w'.heap[B]? = w.heap[B]?) ∨ OR K ρ' S' μ' w' id o)
    (inj : ∀ id id' o o' B c c', μ'[id]? = some o → μ'[id']? = some o' → o ≠ .gone → o' ≠ .gone → ρ' id = some (B, c) → ρ' id' = some (B, c') → id = id') : RepMu K ρ' S' μ' w' :=
  h.next0 hb st own k.to0 ob inj

/-- A block that nobody owns, nor reads, turns. -/
theorem RepMu.putObj {K : Ctx} {ρ S μ w} (h : RepMu K ρ S μ w) {D : Nat} {o : Obj} (o' : Obj) (hD : K.w0.heap.size ≤ D) (hS : ¬ S D) (ho : w.heap[D]? = some o)
    (hk : ∀ id p c, μ[id]? = some p → p ≠ .gone → ρ id ≠ some (D, c)) : RepMu K ρ S μ (w.putObj D o') ∧ Stab0 μ ρ S w μ ρ S (w.putObj D o') := by
  have k : Stab0 μ ρ S w μ ρ S (w.putObj D o') := ⟨fun _ h => h, fun b hb => World.putObj_heap_other (fun e => hS (e ▸ hb)), fun id o ho => ⟨o, ho, ObjTo.refl o _⟩⟩
  refine ⟨h.next0 (h.below.trans ⟨rfl, rfl, rfl, Nat.le_of_eq (by simp), fun k hk => World.putObj_heap_other (by omega)⟩) (fun b hb => by rw [World.putObj_size]; exact h.st b hb) h.own k (fun id o hi => .inl ⟨hi, rfl, fun B c hB hne => ?_⟩) h.inj, k⟩
  have hne' : B ≠ D := fun e => hk id o c hi hne (by rw [hB, e])
  refine ⟨?_, World.putObj_heap_other hne'⟩
  have hor := h.ob id o hi
  cases o with
  | gone => exact absurd rfl hne
  | row e g sz es =>
    rcases hor with ⟨h1, h2⟩ | ⟨B', cap, cur, h1, h2, h3, h4, _⟩
    · rw [h1] at hB; cases hB
    · rw [h1] at hB; cases hB; exact h3
  | map es =>
    obtain ⟨B', cap, ents, clock, h1, h2, h3, h4, _⟩ := hor
    rw [h1] at hB; cases hB; exact h3
  | loop c st env =>
    obtain ⟨B', cap, rec, h1, h2, h3, h4, _⟩ := hor
    rw [h1] at hB; cases hB; exact h3
  | iter s pos ml =>
    obtain ⟨B', cap, h1, h2, h3, h4⟩ := hor
    rw [h1] at hB; cases hB; exact h3

/-- A world of the same blocks. -/
theorem RepMu.same {K : Ctx} {ρ S μ w w'} (h : RepMu K ρ S μ w) (hb : Below w.heap.size w w') (hs : w'.heap.size = w.heap.size) : RepMu K ρ S μ w' ∧ Stab μ ρ S w μ ρ S w' := by
  have hk : ∀ b, b < w.heap.size → w'.heap[b]? = w.heap[b]? := hb.block
  have st : Stab μ ρ S w μ ρ S w' := ⟨fun _ h => h, fun b hb' => hk b (h.st b hb'), fun id o ho => ⟨o, ho, ObjTo.refl o _⟩, Nat.le_of_eq hs.symm, fun b h1 h2 => ⟨(hk b (Array.getElem?_eq_some_iff.1 h2).1).trans h2, h1⟩, fun b hlt h1 h2 => ⟨hk b hlt, h1, h2⟩⟩
  refine ⟨h.next (h.below.trans (hb.mono h.size)) (fun b hb' => by rw [hs]; exact h.st b hb') h.own st (fun id o ho => .inl ⟨ho, rfl, fun B c hB hne => ?_⟩) h.inj, st⟩
  have hor := h.ob id o ho
  cases o with
  | gone => exact absurd rfl hne
  | row e g sz es =>
    rcases hor with ⟨h1, h2⟩ | ⟨B', cap, cur, h1, h2, h3, h4, _⟩
    · rw [h1] at hB; cases hB
    · rw [h1] at hB; cases hB; exact ⟨h3, hk _ h4.lt⟩
  | map es =>
    obtain ⟨B', cap, ents, clock, h1, h2, h3, h4, _⟩ := hor
    rw [h1] at hB; cases hB; exact ⟨h3, hk _ (Array.getElem?_eq_some_iff.1 h4).1⟩
  | loop c st env =>
    obtain ⟨B', cap, rec, h1, h2, h3, h4, _⟩ := hor
    rw [h1] at hB; cases hB; exact ⟨h3, hk _ (Array.getElem?_eq_some_iff.1 h4).1⟩
  | iter s pos ml =>
    obtain ⟨B', cap, h1, h2, h3, h4⟩ := hor
    rw [h1] at hB; cases hB; exact ⟨h3, hk _ h4.lt⟩

/-- The block of a live object: where it lies. -/
theorem RepMu.blk {K : Ctx} {ρ S μ w} (h : RepMu K ρ S μ w) {id : Nat} {o : AObj} {B c : Nat} (ho : μ[id]? = some o) (hne : o ≠ .gone) (hB : ρ id = some (B, c)) :
    K.w0.heap.size ≤ B ∧ ¬ S B ∧ B < w.heap.size := by
  have hor := h.ob id o ho
  cases o with
  | gone => exact absurd rfl hne
  | row e g sz es =>
    rcases hor with ⟨h1, h2⟩ | ⟨B', cap, cur, h1, h2, h3, h4, _⟩
    · rw [h1] at hB; cases hB
    · rw [h1] at hB; cases hB; exact ⟨h2, h3, h4.lt⟩
  | map es =>
    obtain ⟨B', cap, ents, clock, h1, h2, h3, h4, _⟩ := hor
    rw [h1] at hB; cases hB; exact ⟨h2, h3, (Array.getElem?_eq_some_iff.1 h4).1⟩
  | loop c st env =>
    obtain ⟨B', cap, rec, h1, h2, h3, h4, _⟩ := hor
    rw [h1] at hB; cases hB; exact ⟨h2, h3, (Array.getElem?_eq_some_iff.1 h4).1⟩
  | iter s pos ml =>
    obtain ⟨B', cap, h1, h2, h3, h4⟩ := hor
    rw [h1] at hB; cases hB; exact ⟨h2, h3, h4.lt⟩

/-- More memory, and more of it that may be read: what is owned has not turned. -/
theorem RepMu.more {K : Ctx} {ρ S μ w S' w'} (h : RepMu K ρ S μ w) (hb : Below w.heap.size w w') (sub : ∀ b, S b → S' b) (st : ∀ b, S' b → b < w'.heap.size) (new : ∀ b, S' b → b < w.heap.size → S b) :
    RepMu K ρ S' μ w' ∧ Stab μ ρ S w μ ρ S' w' := by
  have hk : ∀ b, b < w.heap.size → w'.heap[b]? = w.heap[b]? := hb.block
  have k : Stab μ ρ S w μ ρ S' w' := ⟨sub, fun b hb' => hk b (h.st b hb'), fun id o ho => ⟨o, ho, ObjTo.refl o _⟩, hb.size, fun b h1 h2 => have hlt := (Array.getElem?_eq_some_iff.1 h2).1; ⟨(hk b hlt).trans h2, fun hs => h1 (new b hs hlt)⟩, fun b hlt h1 h2 => ⟨hk b hlt, fun hs => h1 (new b hs hlt), h2⟩⟩
  refine ⟨h.next (h.below.trans (hb.mono h.size)) st (fun b hb1 hb2 => h.own b (new b hb1 (Nat.lt_of_lt_of_le hb2 h.size)) hb2) k (fun id o ho => .inl ⟨ho, rfl, fun B c hB hne => ?_⟩) h.inj, k⟩
  obtain ⟨_, h2, h3⟩ := h.blk ho hne hB
  exact ⟨fun hs => h2 (new B hs h3), hk B h3⟩

/-- A new block that is owned: a row. -/
theorem RepMu.alloc {K : Ctx} {ρ S μ w} (h : RepMu K ρ S μ w) (cur : Array Value) (e sz cap : Nat) (es : List (List AV)) (hc : cur.size = cap * sz) (hl : es.length ≤ cap) (hm : cap ≤ maxLen)
    (hv : ∀ i cs, es[i]? = some cs → cs.length = sz ∧ ∀ j c, cs[j]? = some c → ∃ v, cur[i * sz + j]? = some v ∧ VR μ ρ S w c v ∧ v.oneCell' = true) :
    RepMu K (fun i => if i = μ.length then some (w.heap.size, cap) else ρ i) S (μ ++ [.row e 0 sz es]) (w.alloc (.cells cur e)) ∧
    Stab μ ρ S w (μ ++ [.row e 0 sz es]) (fun i => if i = μ.length then some (w.heap.size, cap) else ρ i) S (w.alloc (.cells cur e)) := by
  have hold : ∀ b, b < w.heap.size → (w.alloc (.cells cur e)).heap[b]? = w.heap[b]? := fun b hb => heap_alloc_old w _ hb
  have k : Stab μ ρ S w (μ ++ [.row e 0 sz es]) (fun i => if i = μ.length then some (w.heap.size, cap) else ρ i) S (w.alloc (.cells cur e)) := by
    refine ⟨fun _ h => h, fun b hb' => hold b (h.st b hb'), fun id o ho => ⟨o, ?_, ?_⟩, by simp, fun b h1 h2 => ⟨(hold b (Array.getElem?_eq_some_iff.1 h2).1).trans h2, h1⟩, fun b hlt h1 h2 => ⟨hold b hlt, h1, h2.snoc fun c hc => by cases hc; omega⟩⟩
    · rw [List.getElem?_append_left (List.getElem?_eq_some_iff.1 ho).1]; exact ho
    · have : id ≠ μ.length := by have := (List.getElem?_eq_some_iff.1 ho).1; omega
      simp only [this, if_false]; exact ObjTo.refl o _
  refine ⟨h.next (h.below.alloc h.size _) (fun b hb' => by
    have := h.st b hb'
    have hs : (w.alloc (.cells cur e)).heap.size = w.heap.size + 1 := by simp
    omega) h.own k (fun id o ho => ?_) ?_, k⟩
  · by_cases hid : id < μ.length
    · rw [List.getElem?_append_left hid] at ho
      refine .inl ⟨ho, by simp only [Nat.ne_of_lt hid, if_false], fun B c hB hne => ?_⟩
      obtain ⟨_, h2, h3⟩ := h.blk ho hne hB
      exact ⟨h2, hold B h3⟩
    · have hlt := (List.getElem?_eq_some_iff.1 ho).1
      simp at hlt
      have : id = μ.length := by omega
      subst this
      simp at ho
      subst ho
      refine .inr (Or.inr ⟨w.heap.size, cap, cur, by simp, h.size, fun hs => Nat.lt_irrefl _ (h.st _ hs), Cel.of (heap_alloc_new w _), hc, hl, hm, fun i cs hi => ⟨(hv i cs hi).1, fun j c hj => ?_⟩⟩)
      obtain ⟨v, v1, v2, v3⟩ := (hv i cs hi).2 j c hj
      exact ⟨v, v1, v2.stab k, v3⟩
  · intro id id' o o' B c c' ho ho' hne hne' hB hB'
    have hlt := (List.getElem?_eq_some_iff.1 ho).1
    have hlt' := (List.getElem?_eq_some_iff.1 ho').1
    simp only [List.length_append, List.length_cons, List.length_nil] at hlt hlt'
    by_cases h1 : id = μ.length <;> by_cases h2 : id' = μ.length
    · omega
    · simp only [h1, h2, if_true, if_false] at hB hB'
      rw [List.getElem?_append_left (by omega)] at ho'
      cases hB
      have := (h.blk ho' hne' hB').2.2
      omega
    · simp only [h1, h2, if_true, if_false] at hB hB'
      rw [List.getElem?_append_left (by omega)] at ho
      cases hB'
      have := (h.blk ho hne hB).2.2
      omega
    · simp only [h1, h2, if_false] at hB hB'
      rw [List.getElem?_append_left (by omega)] at ho ho'
      exact h.inj id id' o o' B c c' ho ho' hne hne' hB hB'

/-- A row is written: its block alone turns. -/
theorem RepMu.setRow {K : Ctx} {ρ S μ w} (h : RepMu K ρ S μ w) {id e g sz : Nat} {es es' : List (List AV)} {B cap : Nat} {cur cur' : Array Value} (ho : μ[id]? = some (.row e g sz es)) (hr : ρ id = some (B, cap))
    (hcur : Cel w B cur e) (hcs : cur.size = cap * sz) (hsz : cur'.size = cap * sz) (hcm : cap ≤ maxLen) (g' : Nat) (hg : g' = g ∧ es.length ≤ es'.length ∨ g < g') (hl : es'.length ≤ cap)
    (hv : ∀ i cs, es'[i]? = some cs → cs.length = sz ∧ ∀ j c, cs[j]? = some c → ∃ v, cur'[i * sz + j]? = some v ∧ VR μ ρ S w c v ∧ v.oneCell' = true) :
    RepMu K ρ S (μ.set id (.row e g' sz es')) (w.setRow B cur') ∧ Stab μ ρ S w (μ.set id (.row e g' sz es')) ρ S (w.setRow B cur') := by
  have hlt := (List.getElem?_eq_some_iff.1 ho).1
  obtain ⟨b1, b2, b3⟩ := h.blk ho (by simp) hr
  have hoth : ∀ b, b ≠ B → (w.setRow B cur').heap[b]? = w.heap[b]? := fun b hb => setRow_other w B b cur' hb
  have hsize : (w.setRow B cur').heap.size = w.heap.size := by simp [World.setRow]
  have k : Stab μ ρ S w (μ.set id (.row e g' sz es')) ρ S (w.setRow B cur') := by
    refine ⟨fun _ h => h, fun b hb' => hoth b (fun e => b2 (e ▸ hb')), fun i o hi => ?_, Nat.le_of_eq hsize.symm, fun b h1 h2 => ⟨(hoth b (fun e => by obtain ⟨_, hcur, _⟩ := hcur; rw [e, hcur] at h2; cases h2)).trans h2, h1⟩, fun b hlt h1 h2 => ⟨hoth b (fun e => h2 id _ cap ho (by simp) (by rw [hr, e])), h1, h2.set (.inr fun c hc => h2 id _ c ho (by simp) hc)⟩⟩
    by_cases hid : i = id
    · subst hid
      rw [ho] at hi; cases hi
      refine ⟨_, List.getElem?_set_self hlt, ?_⟩
      rcases hg with ⟨rfl, hg⟩ | hg
      · exact .inr ⟨rfl, rfl, rfl, hg, rfl⟩
      · exact .inl hg
    · exact ⟨o, by rw [List.getElem?_set_ne (Ne.symm hid)]; exact hi, ObjTo.refl o _⟩
  refine ⟨h.next (h.below.trans ⟨rfl, rfl, rfl, Nat.le_of_eq hsize.symm, fun k hk => hoth k (by omega)⟩) (fun b hb' => by rw [hsize]; exact h.st b hb') h.own k (fun i o hi => ?_) ?_, k⟩
  · by_cases hid : i = id
    · subst hid
      rw [List.getElem?_set_self hlt] at hi
      cases hi
      refine .inr (Or.inr ⟨B, cap, cur', hr, b1, b2, hcur.set (by rw [hsz, hcs]), hsz, hl, hcm, fun i cs hi => ⟨(hv i cs hi).1, fun j c hj => ?_⟩⟩)
      obtain ⟨v, v1, v2, v3⟩ := (hv i cs hi).2 j c hj
      exact ⟨v, v1, v2.stab k, v3⟩
    · rw [List.getElem?_set_ne (Ne.symm hid)] at hi
      refine .inl ⟨hi, rfl, fun B' c hB hne => ?_⟩
      obtain ⟨_, c2, c3⟩ := h.blk hi hne hB
      refine ⟨c2, hoth B' (fun e => hid ?_)⟩
      subst e
      exact h.inj i id o _ B' c cap hi ho hne (by simp) hB hr
  · intro i i' o o' B' c c' hi hi' hne hne' hB hB'
    have key : ∀ (j : Nat) (o : AObj), (μ.set id (.row e g' sz es'))[j]? = some o → o ≠ .gone → ∃ p, μ[j]? = some p ∧ p ≠ AObj.gone := by
      intro j o hj hn
      by_cases hid : j = id
      · subst hid; exact ⟨_, ho, by simp⟩
      · rw [List.getElem?_set_ne (Ne.symm hid)] at hj; exact ⟨o, hj, hn⟩
    obtain ⟨p, p1, p2⟩ := key i o hi hne
    obtain ⟨q, q1, q2⟩ := key i' o' hi' hne'
    exact h.inj i i' p q B' c c' p1 q1 p2 q2 hB hB'

/-- A new block that is owned: whatever object. -/
theorem RepMu.allocO {K : Ctx} {ρ S μ w} (h : RepMu K ρ S μ w) (o : AObj) (ob : Obj) (cap : Nat)
    (hor : ∀ ρ', ρ' μ.length = some (w.heap.size, cap) → Stab μ ρ S w (μ ++ [o]) ρ' S (w.alloc ob) → OR K ρ' S (μ ++ [o]) (w.alloc ob) μ.length o) :
    RepMu K (fun i => if i = μ.length then some (w.heap.size, cap) else ρ i) S (μ ++ [o]) (w.alloc ob) ∧
    Stab μ ρ S w (μ ++ [o]) (fun i => if i = μ.length then some (w.heap.size, cap) else ρ i) S (w.alloc ob) := by
  have hold : ∀ b, b < w.heap.size → (w.alloc ob).heap[b]? = w.heap[b]? := fun b hb => heap_alloc_old w _ hb
  have k : Stab μ ρ S w (μ ++ [o]) (fun i => if i = μ.length then some (w.heap.size, cap) else ρ i) S (w.alloc ob) := by
    refine ⟨fun _ h => h, fun b hb' => hold b (h.st b hb'), fun id o ho => ⟨o, ?_, ?_⟩, by simp, fun b h1 h2 => ⟨(hold b (Array.getElem?_eq_some_iff.1 h2).1).trans h2, h1⟩, fun b hlt h1 h2 => ⟨hold b hlt, h1, h2.snoc fun c hc => by cases hc; omega⟩⟩
    · rw [List.getElem?_append_left (List.getElem?_eq_some_iff.1 ho).1]; exact ho
    · have : id ≠ μ.length := by have := (List.getElem?_eq_some_iff.1 ho).1; omega
      simp only [this, if_false]; exact ObjTo.refl o _
  refine ⟨h.next (h.below.alloc h.size _) (fun b hb' => by
    have := h.st b hb'
    have hs : (w.alloc ob).heap.size = w.heap.size + 1 := by simp
    omega) h.own k (fun id p ho => ?_) ?_, k⟩
  · by_cases hid : id < μ.length
    · rw [List.getElem?_append_left hid] at ho
      refine .inl ⟨ho, by simp only [Nat.ne_of_lt hid, if_false], fun B c hB hne => ?_⟩
      obtain ⟨_, h2, h3⟩ := h.blk ho hne hB
      exact ⟨h2, hold B h3⟩
    · have hlt := (List.getElem?_eq_some_iff.1 ho).1
      simp at hlt
      have : id = μ.length := by omega
      subst this
      simp at ho
      subst ho
      exact .inr (hor _ (by simp) k)
  · intro id id' p p' B c c' ho ho' hne hne' hB hB'
    have hlt := (List.getElem?_eq_some_iff.1 ho).1
    have hlt' := (List.getElem?_eq_some_iff.1 ho').1
    simp only [List.length_append, List.length_cons, List.length_nil] at hlt hlt'
    by_cases h1 : id = μ.length <;> by_cases h2 : id' = μ.length
    · omega
    · simp only [h1, h2, if_true, if_false] at hB hB'
      rw [List.getElem?_append_left (by omega)] at ho'
      cases hB
      have := (h.blk ho' hne' hB').2.2
      omega
    · simp only [h1, h2, if_true, if_false] at hB hB'
      rw [List.getElem?_append_left (by omega)] at ho
      cases hB'
      have := (h.blk ho hne hB).2.2
      omega
    · simp only [h1, h2, if_false] at hB hB'
      rw [List.getElem?_append_left (by omega)] at ho ho'
      exact h.inj id id' p p' B c c' ho ho' hne hne' hB hB'

/-- An object that is owned turns, its block too. -/
theorem RepMu.setO {K : Ctx} {ρ S μ w} (h : RepMu K ρ S μ w) {id B cap : Nat} {o o' : AObj} (ho : μ[id]? = some o) (hne : o ≠ .gone) (hr : ρ id = some (B, cap)) (ob : Obj) (hto : ObjTo o o' (ρ id) (ρ id))
    (hnd : ∀ x, w.heap[B]? ≠ some (.deferred x)) (hor : Stab μ ρ S w (μ.set id o') ρ S (w.putObj B ob) → (w.putObj B ob).heap[B]? = some ob → OR K ρ S (μ.set id o') (w.putObj B ob) id o') :
    RepMu K ρ S (μ.set id o') (w.putObj B ob) ∧ Stab μ ρ S w (μ.set id o') ρ S (w.putObj B ob) := by
  have hlt := (List.getElem?_eq_some_iff.1 ho).1
  obtain ⟨b1, b2, b3⟩ := h.blk ho hne hr
  have hoth : ∀ b, b ≠ B → (w.putObj B ob).heap[b]? = w.heap[b]? := fun b hb => World.putObj_heap_other hb
  have k : Stab μ ρ S w (μ.set id o') ρ S (w.putObj B ob) := by
    refine ⟨fun _ h => h, fun b hb => hoth b (fun e => b2 (e ▸ hb)), fun i p hi => ?_, by simp, fun b hb hd => ⟨(hoth b (fun e => hnd _ (e ▸ hd))).trans hd, hb⟩, fun b hlt h1 h2 => ⟨hoth b (fun e => h2 id _ cap ho hne (by rw [hr, e])), h1, h2.set (.inr fun c hc => h2 id _ c ho hne hc)⟩⟩
    by_cases hid : i = id
    · subst hid
      rw [ho] at hi; cases hi
      exact ⟨_, List.getElem?_set_self hlt, hto⟩
    · exact ⟨p, by rw [List.getElem?_set_ne (Ne.symm hid)]; exact hi, ObjTo.refl p _⟩
  refine ⟨h.next (h.below.trans ⟨rfl, rfl, rfl, by simp, fun k hk => hoth k (by omega)⟩) (fun b hb => by rw [World.putObj_size]; exact h.st b hb) h.own k (fun i p hi => ?_) ?_, k⟩
  · by_cases hid : i = id
    · subst hid
      rw [List.getElem?_set_self hlt] at hi
      cases hi
      exact .inr (hor k (World.putObj_heap_same b3))
    · rw [List.getElem?_set_ne (Ne.symm hid)] at hi
      refine .inl ⟨hi, rfl, fun B' c' hB hne' => ?_⟩
      obtain ⟨_, c2, c3⟩ := h.blk hi hne' hB
      refine ⟨c2, hoth B' (fun e => hid ?_)⟩
      subst e
      exact h.inj i id p o B' c' cap hi ho hne' hne hB hr
  · intro i i' p p' B' q1' q2' hi hi' hn hn' hB hB'
    have key : ∀ (j : Nat) (p : AObj), (μ.set id o')[j]? = some p → p ≠ .gone → ∃ q, μ[j]? = some q ∧ q ≠ AObj.gone := by
      intro j p hj hn
      by_cases hid : j = id
      · subst hid; exact ⟨_, ho, hne⟩
      · rw [List.getElem?_set_ne (Ne.symm hid)] at hj; exact ⟨p, hj, hn⟩
    obtain ⟨p, p1, p2⟩ := key i p hi hn
    obtain ⟨q, q1, q2⟩ := key i' p' hi' hn'
    exact h.inj i i' p q B' q1' q2' p1 q1 p2 q2 hB hB'

end Go.Av
set_option linter.unusedVariables false
set_option linter.unusedSimpArgs false
namespace Go.Av
open Go.RowKit

structure St where
  env : List (Nat × AV)
  mu : List AObj

theorem getE_cons (k : Nat) (x : AV) (r : List (Nat × AV)) (t : Nat) : getE ((k, x) :: r) t = if k = t then x else getE r t := by
  simp only [getE]
  by_cases h : k = t
  · subst h; simp [selE]
  · rw [if_neg h, beq_eq_false_iff_ne.2 h]; rfl

def cellsOf : AV → List AV
  | .agg cs => cs
  | x => [x]

def place : AV → List AObj → Option (List AV × Nat)
  | .tptr cs off, _ => some (cs, off)
  | .ptr id g sz i off, μ =>
    match μ[id]? with
    | some (.row _ g' sz' es) => if g = g' ∧ sz = sz' then (es[i]?).map (·, off) else none
    | _ => none
  | _, _ => none

def okCell (μ : List AObj) : AV → Bool
  | .agg _ => false
  | .tup _ => false
  | .dead => false
  | .hsl id g _ _ => match μ[id]? with | some (.row _ g' _ _) => decide (g = g') | _ => false
  | .ptr id g _ _ _ => match μ[id]? with | some (.row _ g' _ _) => decide (g = g') | _ => false
  | .mp id => match μ[id]? with | some (.map _) => true | _ => false
  | .yl id => match μ[id]? with | some (.loop _ _ _) => true | _ => false
  | _ => true

theorem okCell_one {μ ρ S w c u} (h : okCell μ c = true) (hv : VR μ ρ S w c u) : u.oneCell' = true := by
  cases hv with
  | t h' => cases h' <;> first | rfl | (simp [okCell] at h)
  | agg => simp [okCell] at h
  | tup => simp [okCell] at h
  | fn => rfl
  | iface => rfl
  | hsl => rfl
  | hsl0 => rfl
  | hslOld _ h1 h2 => simp [okCell, h1] at h; omega
  | hslGone _ h1 => simp [okCell, h1] at h
  | ptr => rfl
  | ptrOld v h1 h2 => simp [okCell, h1] at h; omega
  | ptrGone v h1 => simp [okCell, h1] at h
  | mp => rfl
  | mpI => rfl
  | mpGone v h1 => simp [okCell, h1] at h
  | yl => rfl
  | ylGone v h1 => simp [okCell, h1] at h
  | dead => simp [okCell] at h

theorem place_sound {K ρ S μ w p v cs off} (h : RepMu K ρ S μ w) (hp : place p μ = some (cs, off)) (hv : VR μ ρ S w p v) :
    ∃ b o, ∃ f : Nat → Value, v = .pointer (some ⟨b, o + off, none⟩) ∧ ∀ (j : Nat) c, cs[j]? = some c → w.cell? ⟨b, o + j, none⟩ = some (f j) ∧ VR μ ρ S w c (f j) ∧ (f j).oneCell' = true := by
  cases p <;> simp only [place] at hp <;> try (cases hp)
  case tptr =>
    cases hv with
    | t h' =>
      cases h' with
      | tptr _ _ b o val hb hc hr =>
        refine ⟨b, o, val, rfl, fun j c hj => ?_⟩
        have hlt := (List.getElem?_eq_some_iff.1 hj).1
        exact ⟨(hc j hlt).1, .t (hr j c hj), (hc j hlt).2⟩
  case ptr id g sz i off' =>
    split at hp
    · rename_i e g' sz' es ho
      split at hp
      · rename_i hgs
        obtain ⟨rfl, rfl⟩ := hgs
        simp only [Option.map_eq_some_iff, Prod.mk.injEq] at hp
        obtain ⟨cs', hi, rfl, rfl⟩ := hp
        cases hv with
        | t h' => cases h'
        | ptr h1 h2 h3 =>
          rw [ho] at h1; cases h1
          rcases h.ob id _ ho with ⟨h4, rfl⟩ | ⟨B, cap, cur, h4, h5, h6, h7, h8, h9, h10, h11⟩
          · simp at hi
          · rw [h3] at h4; cases h4
            refine ⟨_, i * sz, fun j => (cur[i * sz + j]?).getD undef, rfl, fun j c hj => ?_⟩
            obtain ⟨u, u1, u2, u3⟩ := (h11 i cs' hi).2 j c hj
            rw [h7.cell]
            simp only [u1, Option.getD_some]
            exact ⟨trivial, u2, u3⟩
        | ptrOld v h1 h2 => rw [ho] at h1; cases h1; omega
        | ptrGone v h1 => rw [ho] at h1; cases h1
      · cases hp
    · cases hp

/-- What an operation's run must come to. -/
def OpOK (K : Ctx) (ρ : Nat → Option (Nat × Nat)) (S : Nat → Prop) (μ : List AObj) (w : World) (s : Sem Value) (x : AV) (μ' : List AObj) : Prop :=
  ∃ v w' ρ' S', s.run K.P w = .ok v w' ∧ VR μ' ρ' S' w' x v ∧ RepMu K ρ' S' μ' w' ∧ Stab μ ρ S w μ' ρ' S' w'

theorem OpOK.pure {K ρ S μ w s x v} (h : RepMu K ρ S μ w) (hr : s.run K.P w = .ok v w) (hx : VR μ ρ S w x v) : OpOK K ρ S μ w s x μ :=
  ⟨v, w, ρ, S, hr, hx, h, Stab.refl _ _ _ _⟩

theorem run_isAgg {P : Program} {t : TypeId} {d : TypeDesc} (h : P.underlying t = some d) (w : World) : (isAgg t).run P w = .ok (aggD d) w := by
  simp only [isAgg, Sem.run_bind, run_underlying h, Result.andThen_ok]
  cases d <;> rfl

theorem run_sizeOf {P : Program} {t : TypeId} {i : TypeInfo} (h : P.info? t = some i) (w : World) : (sizeOf t).run P w = .ok i.size w := by
  simp [sizeOf, typeInfo, h]

theorem run_loadVar_agg {P : Program} {t : TypeId} {d : TypeDesc} {i : TypeInfo} {w : World} {b o : Nat} {f : Nat → Value} (hu : P.underlying t = some d) (hd : aggD d = true) (hi : P.info? t = some i)
    (hc : ∀ j, j < i.size → w.cell? ⟨b, o + j, none⟩ = some (f j)) : (loadVar t ⟨b, o, none⟩).run P w = .ok (.agg ((List.range i.size).map f).toArray) w := by
  simp only [loadVar, Sem.run_bind, run_isAgg hu, Result.andThen_ok, hd, if_true, run_sizeOf hi, run_loadCells w ⟨b, o, none⟩ i.size f (fun j hj => by rw [Addr.add_lit]; exact hc j hj)]
  rfl

theorem run_loadVar_one {P : Program} {t : TypeId} {d : TypeDesc} {w : World} {b o : Nat} {u : Value} (hu : P.underlying t = some d) (hd : aggD d = false) (hc : w.cell? ⟨b, o, none⟩ = some u) :
    (loadVar t ⟨b, o, none⟩).run P w = .ok u w := by
  simp [loadVar, run_isAgg hu, hd, load, Sem.run, hc]

def loadA (agg : Bool) (sz : Nat) (p : AV) (μ : List AObj) : Option AV :=
  match place p μ with
  | some (cs, off) => if agg then (if off + sz ≤ cs.length then some (.agg ((cs.drop off).take sz)) else none) else cs[off]?
  | none => none

theorem load_sound {K ρ S μ w p v x} {t : TypeId} {d : TypeDesc} {i : TypeInfo} (h : RepMu K ρ S μ w) (hv : VR μ ρ S w p v) (hu : K.P.underlying t = some d) (hi : K.P.info? t = some i)
    (hl : loadA (aggD d) i.size p μ = some x) : OpOK K ρ S μ w (Instr.loadAt t v) x μ := by
  unfold loadA at hl
  split at hl
  · rename_i cs off hp
    obtain ⟨b, o, f, rfl, hc⟩ := place_sound h hp hv
    cases hd : aggD d with
    | true =>
      simp only [hd, if_true] at hl
      split at hl
      · rename_i hle
        cases hl
        have hcell : ∀ j, j < i.size → w.cell? ⟨b, o + off + j, none⟩ = some (f (off + j)) := fun j hj => by
          have := (hc (off + j) _ (List.getElem?_eq_getElem (by omega))).1
          rwa [Nat.add_assoc]
        refine .pure h (v := .agg ((List.range i.size).map fun j => f (off + j)).toArray) ?_ (.agg _ _ (by simp; omega) fun j c u hj hu => ?_)
        · simp only [Instr.loadAt, Instr.sureAddr, Sem.run_bind, Sem.run_pure, Result.andThen_ok]
          exact run_loadVar_agg hu hd hi hcell
        · rw [List.getElem?_take] at hj
          split at hj
          · rename_i hjlt
            rw [List.getElem?_drop] at hj
            simp [hjlt] at hu
            subst hu
            exact (hc _ _ hj).2.1
          · cases hj
      · cases hl
    | false =>
      simp only [hd, Bool.false_eq_true, if_false] at hl
      obtain ⟨h1, h2, h3⟩ := hc off x hl
      refine .pure h ?_ h2
      simp only [Instr.loadAt, Instr.sureAddr, Sem.run_bind, Sem.run_pure, Result.andThen_ok]
      exact run_loadVar_one hu hd h1
  · cases hl

def storeA (sz : Nat) (p x : AV) (μ : List AObj) : Option (List AObj) :=
  match p with
  | .ptr id g s i off =>
    match μ[id]? with
    | some (.row e g' s' es) =>
      if g = g' ∧ s = s' then
        match es[i]? with
        | some cs => if (cellsOf x).length = sz ∧ off + sz ≤ cs.length ∧ (cellsOf x).all (okCell μ) = true then
            some (μ.set id (.row e g s (es.set i (cs.take off ++ cellsOf x ++ cs.drop (off + sz))))) else none
        | none => none
      else none
    | _ => none
  | _ => none

theorem cells_rel {μ ρ S w x v} (h : VR μ ρ S w x v) (hx : ∀ c ∈ cellsOf x, okCell μ c = true) :
    v.cells.size = (cellsOf x).length ∧ ∀ (j : Nat) c u, (cellsOf x)[j]? = some c → v.cells[j]? = some u → VR μ ρ S w c u ∧ u.oneCell' = true := by
  have one : ∀ x v, VR μ ρ S w x v → okCell μ x = true → cellsOf x = [x] → v.cells.size = (cellsOf x).length ∧ ∀ (j : Nat) c u, (cellsOf x)[j]? = some c → v.cells[j]? = some u → VR μ ρ S w c u ∧ u.oneCell' = true := by
    intro x v h h1 h2
    have h3 := okCell_one h1 h
    have h4 : v.cells = #[v] := by cases v <;> first | rfl | (simp [Value.oneCell'] at h3)
    rw [h2, h4]
    refine ⟨rfl, fun j c u hj hu => ?_⟩
    match j with
    | 0 => simp at hj hu; subst hj; subst hu; exact ⟨h, h3⟩
    | j + 1 => simp at hj
  cases x with
  | agg cs =>
    simp only [cellsOf] at hx ⊢
    cases h with
    | t h' =>
      cases h' with
      | agg _ vs hl hr =>
        refine ⟨hl.symm, fun j c u hj hu => ?_⟩
        have := VR.t (μ := μ) (ρ := ρ) (hr j c u hj hu)
        exact ⟨this, okCell_one (hx c (List.mem_of_getElem? hj)) this⟩
    | agg _ vs hl hr =>
      refine ⟨hl.symm, fun j c u hj hu => ?_⟩
      have := hr j c u hj hu
      exact ⟨this, okCell_one (hx c (List.mem_of_getElem? hj)) this⟩
  | _ => exact one _ v h (hx _ (by simp [cellsOf])) rfl

theorem splice_get {cs xs : List AV} {off sz j : Nat} (hx : xs.length = sz) (hl : off + sz ≤ cs.length) :
    (cs.take off ++ xs ++ cs.drop (off + sz))[j]? = if j < off then cs[j]? else if j < off + sz then xs[j - off]? else cs[j]? := by
  by_cases h1 : j < off
  · rw [List.append_assoc, List.getElem?_append_left (by simp; omega), List.getElem?_take, if_pos h1, if_pos h1]
  · by_cases h2 : j < off + sz
    · rw [List.getElem?_append_left (by simp; omega), List.getElem?_append_right (by simp; omega), if_neg h1, if_pos h2]
      congr 1
      simp; omega
    · rw [List.getElem?_append_right (by simp; omega), List.getElem?_drop, if_neg h1, if_neg h2]
      congr 1
      simp; omega

theorem spliceV_get {cs xs : List Value} {off sz j : Nat} (hx : xs.length = sz) (hl : off + sz ≤ cs.length) :
    (cs.take off ++ xs ++ cs.drop (off + sz))[j]? = if j < off then cs[j]? else if j < off + sz then xs[j - off]? else cs[j]? := by
  by_cases h1 : j < off
  · rw [List.append_assoc, List.getElem?_append_left (by simp; omega), List.getElem?_take, if_pos h1, if_pos h1]
  · by_cases h2 : j < off + sz
    · rw [List.getElem?_append_left (by simp; omega), List.getElem?_append_right (by simp; omega), if_neg h1, if_pos h2]
      congr 1
      simp; omega
    · rw [List.getElem?_append_right (by simp; omega), List.getElem?_drop, if_neg h1, if_neg h2]
      congr 1
      simp; omega

theorem store_sound {K ρ S μ w p v x u μ'} {t : TypeId} {i : TypeInfo} (h : RepMu K ρ S μ w) (hv : VR μ ρ S w p v) (hu : VR μ ρ S w x u) (hi : K.P.info? t = some i)
    (hs : storeA i.size p x μ = some μ') : ∃ w', (Instr.storeAt t v u).run K.P w = .ok () w' ∧ RepMu K ρ S μ' w' ∧ Stab μ ρ S w μ' ρ S w' := by
  cases p <;> simp only [storeA] at hs <;> try (cases hs)
  rename_i id g s k off
  split at hs
  · rename_i e g' s' es ho
    split at hs
    · rename_i hgs
      obtain ⟨rfl, rfl⟩ := hgs
      split at hs
      · rename_i cs hk
        split at hs
        · rename_i hcond
          obtain ⟨c1, c2, c3⟩ := hcond
          cases hs
          have hall : ∀ c ∈ cellsOf x, okCell μ c = true := by simpa [List.all_eq_true] using c3
          obtain ⟨r1, r2⟩ := cells_rel hu hall
          cases hv with
          | t h' => cases h'
          | ptrOld v h1 h2 => rw [ho] at h1; cases h1; omega
          | ptrGone v h1 => rw [ho] at h1; cases h1
          | @ptr _ _ _ _ _ _ _ B cap h1 h2 h3 =>
            rw [ho] at h1; cases h1
            rcases h.ob id _ ho with ⟨h4, rfl⟩ | ⟨B', cap', cur, h4, h5, h6, h7, h8, h9, h10, h11⟩
            · simp at hk
            · rw [h3] at h4; cases h4
              have hcs := h11 k cs hk
              have hkc : k < cap := Nat.lt_of_lt_of_le h2 h9
              have hks : k * s + s ≤ cap * s := by rw [← Nat.succ_mul]; exact Nat.mul_le_mul_right _ hkc
              have hin : k * s + off + u.cells.size ≤ cur.size := by rw [r1, c1, h8]; omega
              have h1c : ∀ y ∈ u.cells.toList, y.oneCell' = true := by
                intro y hy
                obtain ⟨j, hj⟩ := List.getElem?_of_mem hy
                have hj' : u.cells[j]? = some y := by simpa using hj
                have hlt : j < (cellsOf x).length := by rw [← r1]; exact (Array.getElem?_eq_some_iff.1 hj').1
                exact (r2 j _ y (List.getElem?_eq_getElem hlt) hj').2
              have hst := Cel.store (P := K.P) (o := k * s + off) u.cells.toList 0 cur w h7 (by simpa using hin) h1c
              have hlen : u.cells.toList.length = i.size := by simp [r1, c1]
              have hok := h.setRow (cur' := (cur.toList.take (k * s + off) ++ u.cells.toList ++ cur.toList.drop (k * s + off + i.size)).toArray)
                (es' := es.set k (cs.take off ++ cellsOf x ++ cs.drop (off + i.size))) ho h3 h7 h8 (by
                  simp only [List.size_toArray, List.length_append, List.length_take, List.length_drop, hlen, Array.length_toList]
                  have := h8; have := r1; omega) h10 g (.inl ⟨rfl, by simp⟩) (by simpa using h9) (fun i' cs' hi' => by
                  by_cases hik : i' = k
                  · subst hik
                    rw [List.getElem?_set_self h2] at hi'
                    cases hi'
                    refine ⟨by simp [c1]; have := hcs.1; omega, fun j c hj => ?_⟩
                    rw [splice_get c1 c2] at hj
                    have e1 : (cur.toList.take (i' * s + off) ++ u.cells.toList ++ cur.toList.drop (i' * s + off + i.size)).toArray[i' * s + j]? = (cur.toList.take (i' * s + off) ++ u.cells.toList ++ cur.toList.drop (i' * s + off + i.size))[i' * s + j]? := by simp
                    rw [e1, spliceV_get hlen (by rw [Array.length_toList]; omega)]
                    split at hj
                    · rw [if_pos (by omega)]
                      obtain ⟨y, y1, y2, y3⟩ := hcs.2 j c hj
                      exact ⟨y, by simpa using y1, y2, y3⟩
                    · rw [if_neg (by omega)]
                      split at hj
                      · rw [if_pos (by omega)]
                        have hj2 : i' * s + j - (i' * s + off) = j - off := by omega
                        rw [hj2]
                        have hlt : j - off < u.cells.size := by rw [r1, c1]; omega
                        have := r2 (j - off) c u.cells[j - off] hj (Array.getElem?_eq_getElem hlt)
                        exact ⟨_, by simp [Array.getElem?_eq_getElem hlt], this.1, this.2⟩
                      · rw [if_neg (by omega)]
                        obtain ⟨y, y1, y2, y3⟩ := hcs.2 j c hj
                        exact ⟨y, by simpa using y1, y2, y3⟩
                  · rw [List.getElem?_set_ne (Ne.symm hik)] at hi'
                    have hcs' := h11 i' cs' hi'
                    refine ⟨hcs'.1, fun j c hj => ?_⟩
                    obtain ⟨y, y1, y2, y3⟩ := hcs'.2 j c hj
                    have hjs : j < s := by rw [← hcs'.1]; exact (List.getElem?_eq_some_iff.1 hj).1
                    have hoff : off + i.size ≤ s := by rw [← hcs.1]; exact c2
                    have e1 : (cur.toList.take (k * s + off) ++ u.cells.toList ++ cur.toList.drop (k * s + off + i.size)).toArray[i' * s + j]? = (cur.toList.take (k * s + off) ++ u.cells.toList ++ cur.toList.drop (k * s + off + i.size))[i' * s + j]? := by simp
                    refine ⟨y, ?_, y2, y3⟩
                    rw [e1, spliceV_get hlen (by rw [Array.length_toList]; omega)]
                    rcases Nat.lt_or_gt_of_ne hik with hlt | hgt
                    · have : i' * s + s ≤ k * s := by rw [← Nat.succ_mul]; exact Nat.mul_le_mul_right _ hlt
                      rw [if_pos (by omega)]; simpa using y1
                    · have : k * s + s ≤ i' * s := by rw [← Nat.succ_mul]; exact Nat.mul_le_mul_right _ hgt
                      rw [if_neg (by omega), if_neg (by omega)]; simpa using y1)
              refine ⟨_, ?_, hok.1, hok.2⟩
              have hsz : ¬ (u.cells.size ≠ i.size) := by simp [r1, c1]
              simp only [Instr.storeAt, Instr.sureAddr, storeVar, Sem.run_bind, Sem.run_pure, Result.andThen_ok, run_sizeOf hi, hsz, if_false]
              simp only [Nat.add_zero, hlen] at hst
              exact hst
        · cases hs
      · cases hs
    · cases hs
  · cases hs

end Go.Av
set_option linter.unusedVariables false
set_option linter.unusedSimpArgs false
namespace Go.Av
open Go.RowKit

/-! ### new variables -/
def boxA (e : Nat) (x : AV) (μ : List AObj) : Option (AV × List AObj) :=
  if (cellsOf x).all (okCell μ) = true then some (.ptr μ.length 0 (cellsOf x).length 0 0, μ ++ [.row e 0 (cellsOf x).length [cellsOf x]]) else none

theorem box_sound {K ρ S μ w x v r μ'} {e : TypeId} (h : RepMu K ρ S μ w) (hv : VR μ ρ S w x v) (hb : boxA e x μ = some (r, μ')) : OpOK K ρ S μ w (Instr.box e v) r μ' := by
  unfold boxA at hb
  split at hb
  · rename_i hall
    cases hb
    obtain ⟨c1, c2⟩ := cells_rel hv (by simpa [List.all_eq_true] using hall)
    obtain ⟨h1, h2⟩ := h.alloc v.cells e (cellsOf x).length 1 [cellsOf x] (by omega) (by simp) (by simp [maxLen]) (fun i cs hi => by
      match i with
      | 0 =>
        simp at hi; subst hi
        refine ⟨rfl, fun j c hj => ?_⟩
        have hlt : j < v.cells.size := by rw [c1]; exact (List.getElem?_eq_some_iff.1 hj).1
        exact ⟨v.cells[j], by simp [Array.getElem?_eq_getElem hlt], (c2 j c _ hj (Array.getElem?_eq_getElem hlt)).1, (c2 j c _ hj (Array.getElem?_eq_getElem hlt)).2⟩
      | i + 1 => simp at hi)
    refine ⟨.pointer (some ⟨w.heap.size, 0 * (cellsOf x).length + 0, none⟩), _, _, S, ?_, ?_, h1, h2⟩
    · simp [Instr.box, newVar, newRow, newObj, Sem.run, World.alloc_eq]
    · exact .ptr (e := e) (es := [cellsOf x]) (cap := 1) (by simp) (by simp) (by simp)
  · cases hb

/-! ### addresses -/
def faA (off : Nat) (p : AV) (μ : List AObj) : Option AV :=
  match place p μ with
  | some _ => match p with
    | .tptr cs o => some (.tptr cs (o + off))
    | .ptr id g sz i o => some (.ptr id g sz i (o + off))
    | _ => none
  | none => none

theorem fa_rel {K ρ S μ w p v r off} (h : RepMu K ρ S μ w) (hv : VR μ ρ S w p v) (hf : faA off p μ = some r) :
    ∃ b o, v = .pointer (some ⟨b, o, none⟩) ∧ VR μ ρ S w r (.pointer (some ⟨b, o + off, none⟩)) := by
  unfold faA at hf
  split at hf
  · rename_i y hp
    cases p <;> simp only at hf <;> try (cases hf)
    · cases hv with
      | t h' =>
        cases h' with
        | tptr _ _ b o val hb hc hr => exact ⟨b, _, rfl, by rw [Nat.add_assoc]; exact .t (.tptr _ _ b o val hb hc hr)⟩
    · cases hv with
      | t h' => cases h'
      | ptr h1 h2 h3 => exact ⟨_, _, rfl, by rw [Nat.add_assoc]; exact .ptr h1 h2 h3⟩
      | ptrOld v h1 h2 =>
        simp only [place, h1] at hp
        split at hp
        · rename_i hh; omega
        · cases hp
      | ptrGone v h1 => simp [place, h1] at hp
  · cases hf

theorem fa_sound {K ρ S μ w p v r} {s : TypeId} {fs : Array Field} {k : Nat} {f : Field} {i : TypeInfo} (h : RepMu K ρ S μ w) (hv : VR μ ρ S w p v) (hs : K.P.underlying s = some (.struct fs))
    (hk : fs[k]? = some f) (hi : K.P.info? f.type = some i) (hz : i.size ≠ 0) (hf : faA f.offset p μ = some r) : OpOK K ρ S μ w (Instr.fieldAt s v k) r μ := by
  obtain ⟨b, o, rfl, hr⟩ := fa_rel h hv hf
  refine .pure h ?_ hr
  simp [Instr.fieldAt, Instr.sureAddr, run_underlying hs, hk, fieldPlace, run_sizeOf hi, hz, Addr.add_lit]

def ixA (n sz : Nat) (p i : AV) (μ : List AObj) : Option AV :=
  match i with
  | .int _ z => if 0 ≤ z ∧ z < n then faA (z.toNat * sz) p μ else none
  | _ => none

theorem int_inv {μ ρ S w k z v} (h : VR μ ρ S w (.int k z) v) : v = .int k z := by
  cases h with
  | t h' => cases h'; rfl
theorem bool_inv {μ ρ S w z v} (h : VR μ ρ S w (.bool z) v) : v = .bool z := by
  cases h with
  | t h' => cases h'; rfl
theorem str_inv {μ ρ S w z v} (h : VR μ ρ S w (.str z) v) : v = .string z := by
  cases h with
  | t h' => cases h'; rfl

theorem ixA_sound {K ρ S μ w p v ix u r} {t e : TypeId} {n : Nat} {i : TypeInfo} (h : RepMu K ρ S μ w) (hv : VR μ ρ S w p v) (hu : VR μ ρ S w ix u) (ht : K.P.underlying t = some (.array n e)) (hi : K.P.info? e = some i)
    (hf : ixA n i.size p ix μ = some r) : OpOK K ρ S μ w (Instr.indexAt t v u) r μ := by
  unfold ixA at hf
  cases ix <;> simp only at hf <;> try (cases hf)
  rename_i k z
  split at hf
  · rename_i hz
    rw [int_inv hu]
    obtain ⟨b, o, rfl, hr⟩ := fa_rel h hv hf
    refine .pure h ?_ hr
    simp [Instr.indexAt, asIntOf, Instr.sureAddr, run_underlying ht, hz.1, hz.2, run_sizeOf hi, Addr.add_lit]
  · cases hf

def ixS (sz : Nat) (x i : AV) (μ : List AObj) : Option AV :=
  match x, i with
  | .sl n f, .int _ z => if 0 ≤ z ∧ z < n then (if (f z.toNat).length = sz then some (.tptr (f z.toNat) 0) else none) else none
  | .hsl id g s len, .int _ z =>
    match μ[id]? with
    | some (.row _ g' s' _) => if g = g' ∧ s = s' ∧ s = sz then (if 0 ≤ z ∧ z < len then some (.ptr id g s z.toNat 0) else none) else none
    | _ => none
  | _, _ => none

theorem ixS_sound {K ρ S μ w x v ix u r} {t e : TypeId} {i : TypeInfo} (h : RepMu K ρ S μ w) (hv : VR μ ρ S w x v) (hu : VR μ ρ S w ix u) (ht : K.P.underlying t = some (.slice e)) (hi : K.P.info? e = some i)
    (hf : ixS i.size x ix μ = some r) : OpOK K ρ S μ w (Instr.indexAt t v u) r μ := by
  unfold ixS at hf
  split at hf
  · rename_i n f k z
    split at hf
    · rename_i hz
      split at hf
      · rename_i hl
        cases hf
        rw [int_inv hu]
        cases hv with
        | t h' =>
          cases h' with
          | sl _ _ a cap val h1 h2 h3 h4 =>
            obtain ⟨b, o, sz, rfl, hb, hc⟩ := h3 (by omega)
            have hlt : z.toNat < n := by omega
            have hsz : sz = i.size := by rw [← hl]; exact (hc _ hlt).1.symm
            subst hsz
            refine .pure h (v := .pointer (some ⟨b, o + z.toNat * i.size + 0, none⟩)) ?_ (.t (.tptr _ 0 b _ (fun j => val z.toNat j) hb (fun j hj => ?_) (fun j c hj => h4 _ hlt j c hj)))
            · simp [Instr.indexAt, asIntOf, run_underlying ht, hz.1, hz.2, run_sizeOf hi, Addr.add_lit]
            · rw [Nat.add_assoc]; exact (hc _ hlt).2 j (by omega)
      · cases hf
    · cases hf
  · rename_i id g s len k z
    split at hf
    · rename_i e' g' s' es ho
      split at hf
      · rename_i hgs
        obtain ⟨rfl, rfl, rfl⟩ := hgs
        split at hf
        · rename_i hz
          cases hf
          rw [int_inv hu]
          cases hv with
          | t h' => cases h'
          | hsl h1 h2 h3 =>
            refine .pure h ?_ (.ptr (i := z.toNat) (off := 0) h1 (by omega) h3)
            simp [Instr.indexAt, asIntOf, run_underlying ht, hz.1, hz.2, run_sizeOf hi, Addr.add_lit]
          | hsl0 h1 h3 => omega
          | hslOld _ h1 h2 => rw [ho] at h1; cases h1; omega
          | hslGone _ h1 => rw [ho] at h1; cases h1
        · cases hf
      · cases hf
    · cases hf
  · cases hf

/-! ### parts of values -/
def extA (i : Nat) : AV → Option AV
  | .tup cs => cs[i]?
  | _ => none

theorem ext_sound {K ρ S μ w x v r} {i : Nat} (h : RepMu K ρ S μ w) (hv : VR μ ρ S w x v) (hf : extA i x = some r) : OpOK K ρ S μ w (Instr.extract v i) r μ := by
  cases x <;> simp only [extA] at hf <;> try (cases hf)
  rename_i cs
  have hlt := (List.getElem?_eq_some_iff.1 hf).1
  cases hv with
  | t h' =>
    cases h' with
    | tup _ vs hl hr =>
      have hu : vs[i]? = some vs[i] := Array.getElem?_eq_getElem (by omega)
      exact .pure h (by simp [Instr.extract, hu]) (.t (hr i r _ hf hu))
  | tup _ vs hl hr =>
    have hu : vs[i]? = some vs[i] := Array.getElem?_eq_getElem (by omega)
    exact .pure h (by simp [Instr.extract, hu]) (hr i r _ hf hu)

def fldA (agg : Bool) (sz off : Nat) : AV → Option AV
  | .agg cs => if agg then (if off + sz ≤ cs.length then some (.agg ((cs.drop off).take sz)) else none) else cs[off]?
  | _ => none

theorem agg_inv {μ ρ S w cs v} (h : VR μ ρ S w (.agg cs) v) : ∃ vs : Array Value, v = .agg vs ∧ cs.length = vs.size ∧ ∀ (i : Nat) c u, cs[i]? = some c → vs[i]? = some u → VR μ ρ S w c u := by
  cases h with
  | t h' => cases h' with | agg _ vs hl hr => exact ⟨vs, rfl, hl, fun i c u a b => .t (hr i c u a b)⟩
  | agg _ vs hl hr => exact ⟨vs, rfl, hl, hr⟩

theorem part_rel {K ρ S μ w cs r} {vs : Array Value} {t : TypeId} {d : TypeDesc} {i : TypeInfo} {off : Nat} (h : RepMu K ρ S μ w) (hl : cs.length = vs.size) (hr : ∀ (i : Nat) c u, cs[i]? = some c → vs[i]? = some u → VR μ ρ S w c u)
    (hu : K.P.underlying t = some d) (hi : K.P.info? t = some i) (hf : fldA (aggD d) i.size off (.agg cs) = some r) : OpOK K ρ S μ w (part t vs off) r μ := by
  simp only [fldA] at hf
  cases hd : aggD d with
  | true =>
    simp only [hd, if_true] at hf
    split at hf
    · rename_i hle
      cases hf
      refine .pure h (v := .agg (vs.extract off (off + i.size))) ?_ (.agg _ _ (by simp; omega) fun j c u hj hu => ?_)
      · simp [part, run_isAgg hu, hd, run_sizeOf hi]
      · rw [List.getElem?_take] at hj
        split at hj
        · rw [List.getElem?_drop] at hj
          rw [Array.getElem?_extract] at hu
          split at hu
          · exact hr _ c u hj hu
          · cases hu
        · cases hj
    · cases hf
  | false =>
    simp only [hd, Bool.false_eq_true, if_false] at hf
    have hlt := (List.getElem?_eq_some_iff.1 hf).1
    have hu' : vs[off]? = some vs[off] := Array.getElem?_eq_getElem (by omega)
    exact .pure h (by simp [part, run_isAgg hu, hd, hu']) (hr off r _ hf hu')

theorem fld_sound {K ρ S μ w x v r} {s : TypeId} {fs : Array Field} {k : Nat} {f : Field} {d : TypeDesc} {i : TypeInfo} (h : RepMu K ρ S μ w) (hv : VR μ ρ S w x v) (hs : K.P.underlying s = some (.struct fs))
    (hk : fs[k]? = some f) (hu : K.P.underlying f.type = some d) (hi : K.P.info? f.type = some i) (hf : fldA (aggD d) i.size f.offset x = some r) : OpOK K ρ S μ w (Instr.field s v k) r μ := by
  cases x <;> (try (simp only [fldA] at hf; cases hf; done))
  rename_i cs
  obtain ⟨vs, rfl, hl, hr⟩ := agg_inv hv
  obtain ⟨v', w', ρ', S', h1, h2⟩ := part_rel h hl hr hu hi hf
  exact ⟨v', w', ρ', S', by simpa [Instr.field, run_underlying hs, hk, asAgg] using h1, h2⟩

/-! ### lengths -/
def lenA (x : AV) (μ : List AObj) : Option AV :=
  match x with
  | .sl n _ => some (.int .i64 n)
  | .nilsl => some (.int .i64 0)
  | .hsl id g s len => match μ[id]? with | some (.row _ g' _ _) => if g = g' then some (.int .i64 len) else none | _ => none
  | _ => none

theorem len_sound {K ρ S μ w x v r} {t e ty : TypeId} (h : RepMu K ρ S μ w) (hv : VR μ ρ S w x v) (ht : K.P.underlying t = some (.slice e)) (hf : lenA x μ = some r) : OpOK K ρ S μ w (Builtin.len_ #[t] ty #[v]) r μ := by
  cases x <;> simp only [lenA] at hf <;> try (cases hf)
  case sl =>
    cases hv with
    | t h' => cases h' with | sl _ _ a cap val h1 h2 h3 h4 => exact .pure h (by simp [Builtin.len_, run_underlying ht, goInt]) (.t (.int _ _))
  case nilsl =>
    cases hv with
    | t h' => cases h'; exact .pure h (by simp [Builtin.len_, run_underlying ht, goInt]) (.t (.int _ _))
  case hsl id g s len =>
    split at hf
    · rename_i e' g' s' es ho
      split at hf
      · rename_i hgs
        subst hgs
        cases hf
        cases hv with
        | t h' => cases h'
        | hsl h1 h2 h3 => exact .pure h (by simp [Builtin.len_, run_underlying ht, goInt]) (.t (.int _ _))
        | hsl0 h1 h3 => exact .pure h (by simp [Builtin.len_, run_underlying ht, goInt]) (.t (.int _ _))
        | hslOld _ h1 h2 => rw [ho] at h1; cases h1; omega
        | hslGone _ h1 => rw [ho] at h1; cases h1
      · cases hf
    · cases hf

def lenS : AV → Option AV
  | .str s => some (.int .i64 s.size)
  | _ => none

theorem lenS_sound {K ρ S μ w x v r} {t ty : TypeId} (h : RepMu K ρ S μ w) (hv : VR μ ρ S w x v) (ht : K.P.underlying t = some .string) (hf : lenS x = some r) : OpOK K ρ S μ w (Builtin.len_ #[t] ty #[v]) r μ := by
  cases x <;> simp only [lenS] at hf <;> try (cases hf)
  rw [str_inv hv]
  exact .pure h (by simp [Builtin.len_, run_underlying ht, goInt]) (.t (.int _ _))

end Go.Av
set_option linter.unusedVariables false
set_option linter.unusedSimpArgs false
namespace Go.Av
open Go.RowKit

/-- A new object without a block yet: a nil slice that the call owns. -/
theorem RepMu.addNil {K : Ctx} {ρ S μ w} (h : RepMu K ρ S μ w) (e sz : Nat) :
    RepMu K (fun i => if i = μ.length then none else ρ i) S (μ ++ [.row e 0 sz []]) w ∧ Stab μ ρ S w (μ ++ [.row e 0 sz []]) (fun i => if i = μ.length then none else ρ i) S w := by
  have k : Stab μ ρ S w (μ ++ [.row e 0 sz []]) (fun i => if i = μ.length then none else ρ i) S w := by
    refine ⟨fun _ h => h, fun b hb' => rfl, fun id o ho => ⟨o, ?_, ?_⟩, Nat.le_refl _, fun _ h1 h2 => ⟨h2, h1⟩, fun b hlt h1 h2 => ⟨rfl, h1, h2.snoc fun c hc => by cases hc⟩⟩
    · rw [List.getElem?_append_left (List.getElem?_eq_some_iff.1 ho).1]; exact ho
    · have : id ≠ μ.length := by have := (List.getElem?_eq_some_iff.1 ho).1; omega
      simp only [this, if_false]; exact ObjTo.refl o _
  refine ⟨h.next h.below h.st h.own k (fun id o ho => ?_) ?_, k⟩
  · by_cases hid : id < μ.length
    · rw [List.getElem?_append_left hid] at ho
      refine .inl ⟨ho, by simp only [Nat.ne_of_lt hid, if_false], fun B c hB hne => ⟨(h.blk ho hne hB).2.1, rfl⟩⟩
    · have hlt := (List.getElem?_eq_some_iff.1 ho).1
      simp at hlt
      have : id = μ.length := by omega
      subst this
      simp at ho
      subst ho
      exact .inr (Or.inl ⟨by simp, rfl⟩)
  · intro id id' o o' B c c' ho ho' hne hne' hB hB'
    have hlt := (List.getElem?_eq_some_iff.1 ho).1
    have hlt' := (List.getElem?_eq_some_iff.1 ho').1
    simp only [List.length_append, List.length_cons, List.length_nil] at hlt hlt'
    by_cases h1 : id = μ.length
    · simp [h1] at hB
    · by_cases h2 : id' = μ.length
      · simp [h2] at hB'
      · simp only [h1, h2, if_false] at hB hB'
        rw [List.getElem?_append_left (by omega)] at ho ho'
        exact h.inj id id' o o' B c c' ho ho' hne hne' hB hB'

/-- A row gets a new block (and a new name of its contents). -/
theorem RepMu.rehome {K : Ctx} {ρ S μ w} (h : RepMu K ρ S μ w) {id e g sz : Nat} {es : List (List AV)} (ho : μ[id]? = some (.row e g sz es)) (cur : Array Value) (cap g' : Nat) (es' : List (List AV)) (hg : g < g') (hc : cur.size = cap * sz)
    (hl : es'.length ≤ cap) (hm : cap ≤ maxLen)
    (hv : ∀ i cs, es'[i]? = some cs → cs.length = sz ∧ ∀ j c, cs[j]? = some c → ∃ v, cur[i * sz + j]? = some v ∧ VR μ ρ S w c v ∧ v.oneCell' = true) :
    RepMu K (fun i => if i = id then some (w.heap.size, cap) else ρ i) S (μ.set id (.row e g' sz es')) (w.alloc (.cells cur e)) ∧
    Stab μ ρ S w (μ.set id (.row e g' sz es')) (fun i => if i = id then some (w.heap.size, cap) else ρ i) S (w.alloc (.cells cur e)) := by
  have hlt := (List.getElem?_eq_some_iff.1 ho).1
  have hold : ∀ b, b < w.heap.size → (w.alloc (.cells cur e)).heap[b]? = w.heap[b]? := fun b hb => heap_alloc_old w _ hb
  have k : Stab μ ρ S w (μ.set id (.row e g' sz es')) (fun i => if i = id then some (w.heap.size, cap) else ρ i) S (w.alloc (.cells cur e)) := by
    refine ⟨fun _ h => h, fun b hb' => hold b (h.st b hb'), fun i o hi => ?_, by simp, fun b h1 h2 => ⟨(hold b (Array.getElem?_eq_some_iff.1 h2).1).trans h2, h1⟩, fun b hlt2 h1 h2 => ⟨hold b hlt2, h1, fun i p c hi hne => by
      by_cases hid : i = id
      · subst hid; simp only [if_true]; intro hc; cases hc; omega
      · simp only [hid, if_false]
        rw [List.getElem?_set_ne (Ne.symm hid)] at hi
        exact h2 i p c hi hne⟩⟩
    by_cases hid : i = id
    · subst hid
      rw [ho] at hi; cases hi
      exact ⟨_, List.getElem?_set_self hlt, .inl hg⟩
    · exact ⟨o, by rw [List.getElem?_set_ne (Ne.symm hid)]; exact hi, by simp only [hid, if_false]; exact ObjTo.refl o _⟩
  refine ⟨h.next (h.below.alloc h.size _) (fun b hb' => by
    have := h.st b hb'
    have hs : (w.alloc (.cells cur e)).heap.size = w.heap.size + 1 := by simp
    omega) h.own k (fun i o hi => ?_) ?_, k⟩
  · by_cases hid : i = id
    · subst hid
      rw [List.getElem?_set_self hlt] at hi
      cases hi
      refine .inr (Or.inr ⟨w.heap.size, cap, cur, by simp, h.size, fun hs => Nat.lt_irrefl _ (h.st _ hs), Cel.of (heap_alloc_new w _), hc, hl, hm, fun i cs hi => ⟨(hv i cs hi).1, fun j c hj => ?_⟩⟩)
      obtain ⟨v, v1, v2, v3⟩ := (hv i cs hi).2 j c hj
      exact ⟨v, v1, v2.stab k, v3⟩
    · rw [List.getElem?_set_ne (Ne.symm hid)] at hi
      refine .inl ⟨hi, by simp only [hid, if_false], fun B c hB hne => ?_⟩
      obtain ⟨_, c2, c3⟩ := h.blk hi hne hB
      exact ⟨c2, hold B c3⟩
  · intro i i' o o' B c c' hi hi' hne hne' hB hB'
    by_cases h1 : i = id <;> by_cases h2 : i' = id
    · omega
    · simp only [h1, h2, if_true, if_false] at hB hB'
      rw [List.getElem?_set_ne (Ne.symm h2)] at hi'
      cases hB
      have := (h.blk hi' hne' hB').2.2
      omega
    · simp only [h1, h2, if_true, if_false] at hB hB'
      rw [List.getElem?_set_ne (Ne.symm h1)] at hi
      cases hB'
      have := (h.blk hi hne hB).2.2
      omega
    · simp only [h1, h2, if_false] at hB hB'
      rw [List.getElem?_set_ne (Ne.symm h1)] at hi
      rw [List.getElem?_set_ne (Ne.symm h2)] at hi'
      exact h.inj i i' o o' B c c' hi hi' hne hne' hB hB'

/-- The elements that are appended. -/
def srcA (sz : Nat) (y : AV) (μ : List AObj) : Option (List (List AV)) :=
  match y with
  | .nilsl => some []
  | .sl n f => if (List.range n).all (fun i => decide ((f i).length = sz)) = true then some ((List.range n).map f) else none
  | .hsl id g s len => match μ[id]? with | some (.row _ g' s' es) => if g = g' ∧ s = s' ∧ s = sz then some (es.take len) else none | _ => none
  | _ => none

theorem flat_get {m sz : Nat} (val : Nat → Nat → Value) {i j : Nat} (hi : i < m) (hj : j < sz) : ((List.range (m * sz)).map fun k => val (k / sz) (k % sz))[i * sz + j]? = some (val i j) := by
  have h1 : i * sz + j < m * sz := by
    have : i * sz + sz ≤ m * sz := by rw [← Nat.succ_mul]; exact Nat.mul_le_mul_right _ hi
    omega
  have hsz : 0 < sz := by omega
  have e1 : (i * sz + j) / sz = i := by
    rw [Nat.add_comm, Nat.add_mul_div_right _ _ hsz, Nat.div_eq_of_lt hj, Nat.zero_add]
  have e2 : (i * sz + j) % sz = j := by
    rw [Nat.add_comm, Nat.add_mul_mod_self_right, Nat.mod_eq_of_lt hj]
  simp [List.getElem?_range h1, e1, e2]

theorem src_vals {K ρ S μ w y v ys} {sz : Nat} (h : RepMu K ρ S μ w) (hv : VR μ ρ S w y v) (hs : srcA sz y μ = some ys) (hsz : 0 < sz) :
    ∃ a cap, ∃ news : List Value, v = .slice a ys.length cap ∧ news.length = ys.length * sz ∧ (0 < ys.length → ∃ ad, a = some ad ∧ ∀ (k : Nat) u, news[k]? = some u → w.cell? (ad.add k) = some u) ∧
      (∀ u ∈ news, u.oneCell' = true) ∧ ∀ (i : Nat) cs, ys[i]? = some cs → cs.length = sz ∧ ∀ (j : Nat) c, cs[j]? = some c → ∃ u, news[i * sz + j]? = some u ∧ VR μ ρ S w c u := by
  cases y <;> simp only [srcA] at hs <;> try (cases hs)
  case nilsl =>
    cases hv with
    | t h' => cases h'; exact ⟨none, 0, [], rfl, by simp, by simp, by simp, by simp⟩
  case sl n f =>
    split at hs
    · rename_i hall
      cases hs
      have hlen : ∀ i, i < n → (f i).length = sz := by
        intro i hi
        have := List.all_eq_true.1 hall i (List.mem_range.2 hi)
        simpa using this
      cases hv with
      | t h' =>
        cases h' with
        | sl _ _ a cap val h1 h2 h3 h4 =>
          have hn : ((List.range n).map f).length = n := by simp
          refine ⟨a, cap, (List.range (n * sz)).map fun k => val (k / sz) (k % sz), by rw [hn], by simp, fun hpos => ?_, fun u hu => ?_, fun i cs hi => ?_⟩
          · rw [hn] at hpos
            obtain ⟨b, o, s', rfl, hb, hc⟩ := h3 hpos
            refine ⟨_, rfl, fun k u hk => ?_⟩
            have hklt : k < n * sz := by have := (List.getElem?_eq_some_iff.1 hk).1; simpa using this
            have hkn : k / sz < n := by rw [Nat.div_lt_iff_lt_mul hsz]; exact hklt
            have hs' : s' = sz := by rw [← hlen _ hkn]; exact (hc _ hkn).1.symm
            subst hs'
            have hcell := ((hc (k / s') hkn).2 (k % s') (Nat.mod_lt _ hsz)).1
            simp [List.getElem?_range hklt] at hk
            subst hk
            rw [Addr.add_lit]
            have e1 : k / s' * s' + k % s' = k := by rw [Nat.mul_comm]; exact Nat.div_add_mod k s'
            rw [e1] at hcell
            exact hcell
          · obtain ⟨k, hk, rfl⟩ := List.mem_map.1 hu
            have hklt := List.mem_range.1 hk
            have hkn : k / sz < n := by rw [Nat.div_lt_iff_lt_mul hsz]; exact hklt
            obtain ⟨b, o, s', _, hb, hc⟩ := h3 (Nat.lt_of_le_of_lt (Nat.zero_le _) hkn)
            have hs' : s' = sz := by rw [← hlen _ hkn]; exact (hc _ hkn).1.symm
            subst hs'
            exact ((hc (k / s') hkn).2 (k % s') (Nat.mod_lt _ hsz)).2
          · have hilt : i < n := by have := (List.getElem?_eq_some_iff.1 hi).1; simpa using this
            simp [List.getElem?_range hilt] at hi
            subst hi
            refine ⟨hlen i hilt, fun j c hj => ?_⟩
            have hjlt : j < sz := by rw [← hlen i hilt]; exact (List.getElem?_eq_some_iff.1 hj).1
            exact ⟨_, flat_get val hilt hjlt, .t (h4 i hilt j c hj)⟩
    · cases hs
  case hsl id g s len =>
    split at hs
    · rename_i e' g' s' es ho
      split at hs
      · rename_i hgs
        obtain ⟨rfl, rfl, rfl⟩ := hgs
        cases hs
        cases hv with
        | t h' => cases h'
        | @hsl _ _ _ _ _ _ B cap h1 h2 h3 =>
          rw [ho] at h1; cases h1
          have hlen : (es.take len).length = len := by simp; omega
          rcases h.ob id _ ho with ⟨h4, rfl⟩ | ⟨B', cap', cur, h4, h5, h6, h7, h8, h9, h10, h11⟩
          · rw [h3] at h4; cases h4
          · rw [h3] at h4; cases h4
            have hle : len * s ≤ cur.size := by rw [h8]; exact Nat.mul_le_mul_right _ (Nat.le_trans h2 h9)
            refine ⟨_, cap, cur.toList.take (len * s), by rw [hlen], by rw [hlen]; simp; omega, fun hpos => ⟨_, rfl, fun k u hk => ?_⟩, fun u hu => ?_, fun i cs hi => ?_⟩
            · rw [Addr.add_lit, h7.cell]
              rw [List.getElem?_take] at hk
              split at hk
              · simpa using hk
              · cases hk
            · obtain ⟨k, hk⟩ := List.getElem?_of_mem hu
              rw [List.getElem?_take] at hk
              split at hk
              · rename_i hklt
                have hkn : k / s < len := by rw [Nat.div_lt_iff_lt_mul hsz]; exact hklt
                have hrow := h11 (k / s) _ (List.getElem?_eq_getElem (Nat.lt_of_lt_of_le hkn h2))
                obtain ⟨y, y1, y2, y3⟩ := hrow.2 (k % s) _ (List.getElem?_eq_getElem (by rw [hrow.1]; exact Nat.mod_lt _ hsz))
                have e1 : k / s * s + k % s = k := by rw [Nat.mul_comm]; exact Nat.div_add_mod k s
                rw [e1] at y1
                simp [y1] at hk
                rw [← hk]; exact y3
              · cases hk
            · rw [List.getElem?_take] at hi
              split at hi
              · rename_i hilt
                have hrow := h11 i cs hi
                refine ⟨hrow.1, fun j c hj => ?_⟩
                obtain ⟨y, y1, y2, y3⟩ := hrow.2 j c hj
                refine ⟨y, ?_, y2⟩
                have hjlt : j < s := by rw [← hrow.1]; exact (List.getElem?_eq_some_iff.1 hj).1
                have : i * s + s ≤ len * s := by rw [← Nat.succ_mul]; exact Nat.mul_le_mul_right _ hilt
                rw [List.getElem?_take, if_pos (by omega)]
                simpa using y1
              · cases hi
        | hsl0 h1 h3 =>
          refine ⟨_, 0, [], by simp; rfl, by simp, by simp, by simp, by simp⟩
        | hslOld _ h1 h2 => rw [ho] at h1; cases h1; omega
        | hslGone _ h1 => rw [ho] at h1; cases h1
      · cases hs
    · cases hs

def appA (e sz bytes : Nat) (x y : AV) (μ : List AObj) : Option (AV × List AObj) :=
  match srcA sz y μ with
  | none => none
  | some ys =>
    match x with
    | .nilsl => if ys.length ≤ 4611686018427387904 ∧ ys.length * bytes ≤ 140737488355328 then some (.hsl μ.length 0 sz ys.length, μ ++ [.row e 0 sz ys]) else none
    | .hsl id g s len =>
      match μ[id]? with
      | some (.row e' g' s' es) =>
        if g = g' ∧ s = s' ∧ s = sz ∧ e' = e then
          (if len + ys.length ≤ 4611686018427387904 ∧ (len + ys.length) * bytes ≤ 140737488355328 then some (.hsl id (g + 1) sz (len + ys.length), μ.set id (.row e (g + 1) sz (es.take len ++ ys))) else none)
        else none
      | _ => none
    | _ => none

theorem run_append_zero {P : Program} (w : World) (t ty e : TypeId) (i : TypeInfo) (ht : P.underlying t = some (.slice e)) (hi : P.info? e = some i) (b a : Option Addr) (n cap c : Nat) (hn : n ≤ cap) :
    (Builtin.append_ #[t, t] ty #[.slice b n cap, .slice a 0 c]).run P w = .ok (.slice b n cap) w := by
  have hl : (Builtin.firstCells i.size 0 (.slice a 0 c)).run P w = .ok #[] w := by
    cases a <;> simp [Builtin.firstCells, loadCells, loadCellsFrom]
  cases b <;> simp [Builtin.append_, run_underlying ht, sizeOf, typeInfo, hi, Builtin.lenOf, hn, hl, storeCells]

theorem run_append_empty {P : Program} (w : World) (t ty e : TypeId) (i : TypeInfo) (z : Value) (ht : P.underlying t = some (.slice e)) (hi : P.info? e = some i) (hz : i.zero = some z) (b : Option Addr)
    (a : Addr) (n c : Nat) (news : List Value) (hl : news.length = n * i.size) (hnews : ∀ (j : Nat) v, news[j]? = some v → w.cell? (a.add j) = some v)
    (h0 : 0 < n) (h63 : (n : Int) ≤ 9223372036854775807) (h48 : n * i.bytes ≤ 281474976710656) :
    (Builtin.append_ #[t, t] ty #[.slice b 0 0, .slice (some a) n c]).run P w =
      .ok (.slice (some ⟨w.heap.size, 0, none⟩) n (grownCap w n 0 e)) (w.drew.alloc (.cells (news.toArray ++ Builtin.zeroCells z.cells (grownCap w n 0 e - n)) e)) := by
  cases b with
  | none => exact run_append_nil w t ty e i z ht hi hz a n c news hl hnews h0 h63 h48
  | some b =>
    have := run_append_grow (P := P) w t ty e i z ht hi hz b 0 0 [] (by simp) (by simp) a n c news hl hnews (by omega) (by simpa using h63) (by rw [Nat.zero_add, nextslicecap_zero h0]; exact h48)
    simpa using this

theorem take_get {es ys : List (List AV)} {len i : Nat} (hl : len ≤ es.length) : (es.take len ++ ys)[i]? = if i < len then es[i]? else ys[i - len]? := by
  by_cases h : i < len
  · rw [List.getElem?_append_left (by simp; omega), List.getElem?_take, if_pos h, if_pos h]
  · rw [List.getElem?_append_right (by simp; omega), if_neg h]
    congr 1
    simp; omega

theorem app_sound {K ρ S μ w x v y u r μ'} {t ty e : TypeId} {i : TypeInfo} {z : Value} (h : RepMu K ρ S μ w) (hv : VR μ ρ S w x v) (hu : VR μ ρ S w y u) (ht : K.P.underlying t = some (.slice e)) (hi : K.P.info? e = some i)
    (hz : i.zero = some z) (hzs : z.cells.size = i.size) (hsz : 0 < i.size) (hf : appA e i.size i.bytes x y μ = some (r, μ')) : OpOK K ρ S μ w (Builtin.append_ #[t, t] ty #[v, u]) r μ' := by
  unfold appA at hf
  split at hf
  · cases hf
  rename_i ys hys
  obtain ⟨a, c0, news, rfl, n1, n2, n3, n4⟩ := src_vals h hu hys hsz
  -- a world that has been asked
  obtain ⟨hd1, hd2⟩ := h.same (w' := w.drew) (Below.drew (Below.refl _ _)) rfl
  have n4' : ∀ (i' : Nat) cs, ys[i']? = some cs → cs.length = i.size ∧ ∀ (j : Nat) c, cs[j]? = some c → ∃ u, news[i' * i.size + j]? = some u ∧ VR μ ρ S w.drew c u ∧ u.oneCell' = true := fun i' cs hi' => by
    refine ⟨(n4 i' cs hi').1, fun j c hj => ?_⟩
    obtain ⟨u, u1, u2⟩ := (n4 i' cs hi').2 j c hj
    exact ⟨u, u1, u2.stab hd2, n3 u (List.mem_of_getElem? u1)⟩
  -- the cells of a new block that holds the new elements alone
  have fresh : ∀ cap, ys.length ≤ cap → (news.toArray ++ Builtin.zeroCells z.cells (cap - ys.length)).size = cap * i.size := fun cap hc => by
    simp only [Array.size_append, List.size_toArray, size_zeroCells, hzs, n1, ← Nat.add_mul]; congr 1; omega
  have freshv : ∀ cap, ∀ (i' : Nat) cs, ys[i']? = some cs → cs.length = i.size ∧ ∀ (j : Nat) c, cs[j]? = some c → ∃ u, (news.toArray ++ Builtin.zeroCells z.cells (cap - ys.length))[i' * i.size + j]? = some u ∧ VR μ ρ S w.drew c u ∧ u.oneCell' = true := fun cap i' cs hi' => by
    refine ⟨(n4' i' cs hi').1, fun j c hj => ?_⟩
    obtain ⟨u, u1, u2, u3⟩ := (n4' i' cs hi').2 j c hj
    refine ⟨u, ?_, u2, u3⟩
    have hlt := (List.getElem?_eq_some_iff.1 u1).1
    rw [Array.getElem?_append_left (by simpa using hlt)]
    simpa using u1
  split at hf
  · -- onto nil
    rename_i x'
    split at hf
    · rename_i hb
      cases hf
      have hv0 : v = .slice none 0 0 := by cases hv with | t h' => cases h'; rfl
      subst hv0
      by_cases hm : ys.length = 0
      · have hnil : ys = [] := List.eq_nil_of_length_eq_zero hm
        subst hnil
        obtain ⟨a1, a2⟩ := h.addNil e i.size
        exact ⟨.slice none 0 0, w, _, S, run_append_zero w t ty e i ht hi none a 0 0 c0 (Nat.le_refl _), .hsl0 (e := e) (es := []) (by simp) (by simp), a1, a2⟩
      · obtain ⟨ad, rfl, hcell⟩ := n2 (by omega)
        have hr := run_append_nil (P := K.P) w t ty e i z ht hi hz ad ys.length c0 news n1 hcell (by omega) (by omega) (by omega)
        have hge := grownCap_ge w ys.length 0 e
        have hcm : grownCap w ys.length 0 e ≤ maxLen := grownCap_le_maxLen w ys.length 0 e (by simp only [maxLen]; omega)
        obtain ⟨a1, a2⟩ := hd1.alloc _ e i.size (grownCap w ys.length 0 e) ys (fresh _ hge) hge hcm (freshv _)
        exact ⟨_, _, _, S, hr, .hsl (e := e) (es := ys) (by simp) (Nat.le_refl _) (by simp), a1, hd2.trans a2⟩
    · cases hf
  · rename_i id g s len
    split at hf
    · rename_i e' g' s' es ho
      split at hf
      · rename_i hgs
        obtain ⟨rfl, rfl, rfl, rfl⟩ := hgs
        split at hf
        · rename_i hb
          cases hf
          cases hv with
          | t h' => cases h'
          | hslOld _ h1 h2 => rw [ho] at h1; cases h1; omega
          | hslGone _ h1 => rw [ho] at h1; cases h1
          | @hsl0 _ _ _ _ _ a0 h1 h3 =>
            rw [ho] at h1; cases h1
            have hes : es = [] := by
              rcases h.ob id _ ho with ⟨_, h4⟩ | ⟨B, cap, cur, h4, _⟩
              · exact h4
              · rw [h3] at h4; cases h4
            subst hes
            simp only [Nat.zero_add, List.take_nil, List.nil_append] at hb ⊢
            have hlt := (List.getElem?_eq_some_iff.1 ho).1
            by_cases hm : ys.length = 0
            · have hnil : ys = [] := List.eq_nil_of_length_eq_zero hm
              subst hnil
              -- nothing was appended: the object gets a new name
              have k : Stab μ ρ S w (μ.set id (.row e' (g + 1) i.size [])) ρ S w := ⟨fun _ h => h, fun _ _ => rfl, fun i' o hi' => by
                by_cases hid : i' = id
                · subst hid
                  rw [ho] at hi'; cases hi'
                  exact ⟨_, List.getElem?_set_self hlt, .inl (Nat.lt_succ_self _)⟩
                · exact ⟨o, by rw [List.getElem?_set_ne (Ne.symm hid)]; exact hi', ObjTo.refl o _⟩, Nat.le_refl _, fun _ h1 h2 => ⟨h2, h1⟩, fun b hlt2 h1 h2 => ⟨rfl, h1, h2.set (.inr fun c hc => by rw [h3] at hc; cases hc)⟩⟩
              refine ⟨_, w, ρ, S, run_append_zero w t ty e' i ht hi a0 a 0 0 c0 (Nat.le_refl _), .hsl0 (e := e') (es := []) (List.getElem?_set_self hlt) h3, h.next h.below h.st h.own k (fun i' o hi' => ?_) ?_, k⟩
              · by_cases hid : i' = id
                · subst hid
                  rw [List.getElem?_set_self hlt] at hi'
                  cases hi'
                  exact .inr (Or.inl ⟨h3, rfl⟩)
                · rw [List.getElem?_set_ne (Ne.symm hid)] at hi'
                  exact .inl ⟨hi', rfl, fun B c hB hne => ⟨(h.blk hi' hne hB).2.1, rfl⟩⟩
              · intro i1 i2 o o' B c c' hi1 hi2 hne hne' hB hB'
                have h1 : i1 ≠ id := fun e => by subst e; rw [h3] at hB; cases hB
                have h2 : i2 ≠ id := fun e => by subst e; rw [h3] at hB'; cases hB'
                rw [List.getElem?_set_ne (Ne.symm h1)] at hi1
                rw [List.getElem?_set_ne (Ne.symm h2)] at hi2
                exact h.inj i1 i2 o o' B c c' hi1 hi2 hne hne' hB hB'
            · obtain ⟨ad, rfl, hcell⟩ := n2 (by omega)
              have hr := run_append_empty (P := K.P) w t ty e' i z ht hi hz a0 ad ys.length c0 news n1 hcell (by omega) (by omega) (by omega)
              have hge := grownCap_ge w ys.length 0 e'
              have hcm : grownCap w ys.length 0 e' ≤ maxLen := grownCap_le_maxLen w ys.length 0 e' (by simp only [maxLen]; omega)
              obtain ⟨a1, a2⟩ := hd1.rehome ho _ (grownCap w ys.length 0 e') (g + 1) ys (Nat.lt_succ_self _) (fresh _ hge) hge hcm (freshv _)
              exact ⟨_, _, _, S, hr, .hsl (e := e') (es := ys) (List.getElem?_set_self hlt) (Nat.le_refl _) (by simp), a1, hd2.trans a2⟩
          | @hsl _ _ _ _ _ _ B cap h1 h2 h3 =>
            rw [ho] at h1; cases h1
            have hlt := (List.getElem?_eq_some_iff.1 ho).1
            rcases h.ob id _ ho with ⟨h4, rfl⟩ | ⟨B', cap', cur, h4, h5, h6, h7, h8, h9, h10, h11⟩
            · rw [h3] at h4; cases h4
            rw [h3] at h4; cases h4
            have hlen : (es.take len ++ ys).length = len + ys.length := by simp; omega
            have hlc : len ≤ cap := Nat.le_trans h2 h9
            have hle : len * i.size ≤ cur.size := by rw [h8]; exact Nat.mul_le_mul_right _ hlc
            have hidx : ∀ i' j, i' < len → j < i.size → i' * i.size + j < len * i.size := fun i' j a b => by
              have : i' * i.size + i.size ≤ len * i.size := by rw [← Nat.succ_mul]; exact Nat.mul_le_mul_right _ a
              omega
            have hoff : ∀ i' j, len ≤ i' → i' * i.size + j = len * i.size + ((i' - len) * i.size + j) := fun i' j a => by
              have : i' * i.size = len * i.size + (i' - len) * i.size := by rw [← Nat.add_mul]; congr 1; omega
              omega
            by_cases hroom : len + ys.length ≤ cap
            · -- there is room
              have hfit : len * i.size + news.length ≤ cur.size := by rw [n1, h8, ← Nat.add_mul]; exact Nat.mul_le_mul_right _ hroom
              have key : ∃ cur', cur'.size = cap * i.size ∧ (Builtin.append_ #[t, t] ty #[.slice (some ⟨B, 0, none⟩) len cap, .slice a ys.length c0]).run K.P w = .ok (.slice (some ⟨B, 0, none⟩) (len + ys.length) cap) (w.setRow B cur') ∧
                  ∀ k, cur'[k]? = if k < len * i.size then cur[k]? else if k < len * i.size + news.length then news[k - len * i.size]? else cur[k]? := by
                by_cases hm : ys.length = 0
                · have hn0 : news = [] := List.eq_nil_of_length_eq_zero (by rw [n1, hm]; simp)
                  refine ⟨cur, h8, ?_, fun k => ?_⟩
                  · rw [hm, Nat.add_zero, h7.self]
                    exact run_append_zero w t ty e' i ht hi _ a len cap c0 hlc
                  · rw [hn0]; split
                    · rfl
                    · rw [if_neg (by simp; omega)]
                · obtain ⟨ad, rfl, hcell⟩ := n2 (by omega)
                  refine ⟨_, ?_, Cel.room (P := K.P) t ty e' i ht hi h7 ad ys.length c0 news n1 hcell n3 hroom hfit, fun k => ?_⟩
                  · simp only [List.size_toArray, List.length_append, List.length_take, List.length_drop, Array.length_toList]; omega
                  · have := spliceV_get (cs := cur.toList) (xs := news) (off := len * i.size) (sz := news.length) (j := k) rfl (by simpa using hfit)
                    simpa using this
              obtain ⟨cur', k1, k2, k3⟩ := key
              obtain ⟨a1, a2⟩ := h.setRow (es' := es.take len ++ ys) (cur' := cur') ho h3 h7 h8 k1 h10 (g + 1) (.inr (Nat.lt_succ_self _)) (by rw [hlen]; exact hroom) (fun i' cs hi' => by
                rw [take_get h2] at hi'
                split at hi'
                · rename_i hlt'
                  refine ⟨(h11 i' cs hi').1, fun j c hj => ?_⟩
                  obtain ⟨y', y1, y2, y3⟩ := (h11 i' cs hi').2 j c hj
                  have hj' : j < i.size := by rw [← (h11 i' cs hi').1]; exact (List.getElem?_eq_some_iff.1 hj).1
                  exact ⟨y', by rw [k3, if_pos (hidx i' j hlt' hj')]; exact y1, y2, y3⟩
                · rename_i hge'
                  refine ⟨(n4 _ cs hi').1, fun j c hj => ?_⟩
                  obtain ⟨u, u1, u2⟩ := (n4 _ cs hi').2 j c hj
                  have hul := (List.getElem?_eq_some_iff.1 u1).1
                  refine ⟨u, ?_, u2, n3 u (List.mem_of_getElem? u1)⟩
                  rw [hoff i' j (by omega), k3, if_neg (by omega), if_pos (by omega)]
                  rw [show len * i.size + ((i' - len) * i.size + j) - len * i.size = (i' - len) * i.size + j by omega]
                  exact u1)
              exact ⟨_, _, ρ, S, k2, .hsl (e := e') (es := es.take len ++ ys) (List.getElem?_set_self hlt) (by rw [hlen]; exact Nat.le_refl _) h3, a1, a2⟩
            · -- a new block
              have hm : ys.length ≠ 0 := by omega
              obtain ⟨ad, rfl, hcell⟩ := n2 (by omega)
              have holds : ∀ (j : Nat) u, (cur.toList.take (len * i.size))[j]? = some u → w.cell? ((⟨B, 0, none⟩ : Addr).add j) = some u := by
                intro j u hj
                rw [Addr.add_lit, h7.cell]
                rw [List.getElem?_take] at hj
                split at hj
                · simpa using hj
                · cases hj
              have hol : (cur.toList.take (len * i.size)).length = len * i.size := by simp; omega
              have hr := run_append_grow (P := K.P) w t ty e' i z ht hi hz ⟨B, 0, none⟩ len cap (cur.toList.take (len * i.size)) hol holds ad ys.length c0 news n1 hcell (by omega) (by omega)
                (growslice_fits (by omega) hb.2)
              have hge := grownCap_ge w (len + ys.length) cap e'
              have hcm : grownCap w (len + ys.length) cap e' ≤ maxLen := grownCap_le_maxLen w (len + ys.length) cap e' (by simp only [maxLen]; omega)
              generalize hgc : grownCap w (len + ys.length) cap e' = nc at *
              have hget : ∀ k, k < len * i.size + news.length → ((cur.toList.take (len * i.size)).toArray ++ news.toArray ++ Builtin.zeroCells z.cells (nc - (len + ys.length)))[k]? = if k < len * i.size then cur[k]? else news[k - len * i.size]? := by
                intro k hk
                rw [Array.getElem?_append_left (by simp only [Array.size_append, List.size_toArray, hol]; omega)]
                split
                · rename_i h1
                  rw [Array.getElem?_append_left (by simp only [List.size_toArray, hol]; omega)]
                  simp [List.getElem?_take, h1]
                · rename_i h1
                  rw [Array.getElem?_append_right (by simp only [List.size_toArray, hol]; omega)]
                  simp only [List.size_toArray, hol]
                  simp
              obtain ⟨a1, a2⟩ := hd1.rehome ho ((cur.toList.take (len * i.size)).toArray ++ news.toArray ++ Builtin.zeroCells z.cells (nc - (len + ys.length))) nc (g + 1) (es.take len ++ ys) (Nat.lt_succ_self _) (by
                simp only [Array.size_append, List.size_toArray, hol, size_zeroCells, hzs, n1, ← Nat.add_mul]; congr 1; omega) (by rw [hlen]; exact hge) hcm (fun i' cs hi' => by
                rw [take_get h2] at hi'
                split at hi'
                · rename_i hlt'
                  refine ⟨(h11 i' cs hi').1, fun j c hj => ?_⟩
                  obtain ⟨y', y1, y2, y3⟩ := (h11 i' cs hi').2 j c hj
                  have hj' : j < i.size := by rw [← (h11 i' cs hi').1]; exact (List.getElem?_eq_some_iff.1 hj).1
                  have := hidx i' j hlt' hj'
                  exact ⟨y', by rw [hget _ (by omega), if_pos this]; exact y1, y2.stab hd2, y3⟩
                · rename_i hge'
                  refine ⟨(n4 _ cs hi').1, fun j c hj => ?_⟩
                  obtain ⟨u, u1, u2⟩ := (n4 _ cs hi').2 j c hj
                  have hul := (List.getElem?_eq_some_iff.1 u1).1
                  refine ⟨u, ?_, u2.stab hd2, n3 u (List.mem_of_getElem? u1)⟩
                  rw [hoff i' j (by omega), hget _ (by omega), if_neg (by omega)]
                  rw [show len * i.size + ((i' - len) * i.size + j) - len * i.size = (i' - len) * i.size + j by omega]
                  exact u1)
              exact ⟨_, _, _, S, hr, .hsl (e := e') (es := es.take len ++ ys) (List.getElem?_set_self hlt) (by rw [hlen]; exact Nat.le_refl _) (by simp), a1, hd2.trans a2⟩
        · cases hf
      · cases hf
    · cases hf
  · cases hf

end Go.Av
set_option linter.unusedVariables false
set_option linter.unusedSimpArgs false
namespace Go.Av
open Go.RowKit

/-! ### literals -/
theorem foldl_set (off : Nat) : ∀ (l : List Value) (s : Nat) (cells : Array Value), off + s + l.length ≤ cells.size →
    ((l.zipIdx s).foldl (fun cs (p : Value × Nat) => cs.setIfInBounds (off + p.2) p.1) cells).size = cells.size ∧
    ∀ k, ((l.zipIdx s).foldl (fun cs (p : Value × Nat) => cs.setIfInBounds (off + p.2) p.1) cells)[k]? = if off + s ≤ k ∧ k < off + s + l.length then l[k - (off + s)]? else cells[k]?
  | [], s, cells, h => by
    refine ⟨by simp, fun k => ?_⟩
    rw [if_neg (fun hh => by simp at hh; omega)]; simp
  | v :: l, s, cells, h => by
    simp only [List.length_cons] at h
    obtain ⟨h1, h2⟩ := foldl_set off l (s + 1) (cells.setIfInBounds (off + s) v) (by simp; omega)
    refine ⟨by simp only [List.zipIdx_cons, List.foldl_cons]; rw [h1]; simp, fun k => ?_⟩
    simp only [List.zipIdx_cons, List.foldl_cons]
    rw [h2 k]
    by_cases e : k = off + s
    · subst e
      rw [if_neg (by omega), if_pos (by constructor <;> simp), Array.getElem?_setIfInBounds_self_of_lt (by omega)]
      simp
    · by_cases e2 : off + (s + 1) ≤ k ∧ k < off + (s + 1) + l.length
      · rw [if_pos e2, if_pos (by simp only [List.length_cons]; omega)]
        rw [show k - (off + s) = (k - (off + (s + 1))) + 1 by omega]
        simp
      · rw [if_neg e2, if_neg (by simp only [List.length_cons]; omega), Array.getElem?_setIfInBounds_ne (by omega)]

/-- What a flat row of cells holds. -/
def FlatRel (K : Ctx) (ρ : Nat → Option (Nat × Nat)) (S : Nat → Prop) (μ : List AObj) (w : World) (cells : Array Value) (cs : List AV) : Prop :=
  cells.size = cs.length ∧ ∀ (j : Nat) c, cs[j]? = some c → ∃ u, cells[j]? = some u ∧ VR μ ρ S w c u ∧ u.oneCell' = true

def bldA (μ : List AObj) : List AV → List (Nat × Nat × AV) → Option (List AV)
  | cells, [] => some cells
  | cells, (off, sz, x) :: r =>
    if (cellsOf x).length = sz ∧ off + sz ≤ cells.length ∧ (cellsOf x).all (okCell μ) = true then bldA μ (cells.take off ++ cellsOf x ++ cells.drop (off + sz)) r else none

theorem fill_rel {K ρ S μ w} (pl : Nat → Option (Nat × Nat)) : ∀ (ps : List (Nat × Value)) (as : List (Nat × Nat × AV)) (cells : Array Value) (cs cs' : List AV), FlatRel K ρ S μ w cells cs → ps.length = as.length →
    (∀ (i : Nat) k v off sz x, ps[i]? = some (k, v) → as[i]? = some (off, sz, x) → pl k = some (off, sz) ∧ VR μ ρ S w x v) → bldA μ cs as = some cs' →
    ∃ cells', Instr.fill pl cells ps = some cells' ∧ FlatRel K ρ S μ w cells' cs'
  | [], as, cells, cs, cs', h, hl, _, hb => by
    cases as with
    | nil => simp [bldA] at hb; subst hb; exact ⟨cells, rfl, h⟩
    | cons _ _ => simp at hl
  | (k, v) :: ps, [], cells, cs, cs', h, hl, _, hb => by simp at hl
  | (k, v) :: ps, (off, sz, x) :: as, cells, cs, cs', h, hl, hp, hb => by
    obtain ⟨h1, h2⟩ := hp 0 k v off sz x rfl rfl
    simp only [bldA] at hb
    split at hb
    · rename_i hc
      obtain ⟨c1, c2, c3⟩ := hc
      obtain ⟨r1, r2⟩ := cells_rel h2 (by simpa [List.all_eq_true] using c3)
      have hin : off + 0 + v.cells.toList.length ≤ cells.size := by rw [h.1]; simp [r1, c1]; omega
      obtain ⟨f1, f2⟩ := foldl_set off v.cells.toList 0 cells hin
      obtain ⟨cells', e1, e2⟩ := fill_rel pl ps as ((v.cells.toList.zipIdx 0).foldl (fun cs (p : Value × Nat) => cs.setIfInBounds (off + p.2) p.1) cells) (cs.take off ++ cellsOf x ++ cs.drop (off + sz)) cs' ⟨by rw [f1, h.1]; simp [c1]; omega, fun j c hj => by
        rw [splice_get c1 c2] at hj
        have hlen : v.cells.toList.length = sz := by simp [r1, c1]
        rw [f2, hlen]
        split at hj
        · rw [if_neg (by omega)]; exact h.2 j c hj
        · split at hj
          · rw [if_pos (by omega)]
            have hlt : j - off < v.cells.size := by rw [r1, c1]; omega
            have := r2 (j - off) c v.cells[j - off] hj (Array.getElem?_eq_getElem hlt)
            exact ⟨_, by simp [Array.getElem?_eq_getElem hlt], this.1, this.2⟩
          · rw [if_neg (by omega)]; exact h.2 j c hj⟩ (by simpa using hl) (fun i k v off sz x a b => hp (i + 1) k v off sz x a b) hb
      refine ⟨cells', ?_, e2⟩
      simp only [Instr.fill, h1]
      rw [if_neg (by simp [r1, c1, h.1]; omega)]
      rw [← e1]
      congr 1
      rw [← Array.foldl_toList, Array.toList_zipIdx]
    · cases hb

theorem flat_agg {K ρ S μ w cells cs} (h : FlatRel K ρ S μ w cells cs) : VR μ ρ S w (.agg cs) (.agg cells) :=
  .agg _ _ h.1.symm fun j c u hj hu => by
    obtain ⟨u', h1, h2, _⟩ := h.2 j c hj
    rw [hu] at h1; cases h1; exact h2

/-- Slices that are written out. -/
def chunks (sz : Nat) : Nat → List AV → List (List AV)
  | 0, _ => []
  | n + 1, cs => cs.take sz :: chunks sz n (cs.drop sz)

theorem chunks_get (sz : Nat) : ∀ (n : Nat) (cs : List AV) (i : Nat) (c : List AV), cs.length = n * sz → (chunks sz n cs)[i]? = some c → i < n ∧ c.length = sz ∧ ∀ j, j < sz → c[j]? = cs[i * sz + j]?
  | 0, cs, i, c, hl, h => by simp [chunks] at h
  | n + 1, cs, 0, c, hl, h => by
    rw [Nat.succ_mul] at hl
    simp [chunks] at h
    subst h
    refine ⟨by omega, by simp; omega, fun j hj => ?_⟩
    rw [List.getElem?_take, if_pos hj]; simp
  | n + 1, cs, i + 1, c, hl, h => by
    rw [Nat.succ_mul] at hl
    simp only [chunks, List.getElem?_cons_succ] at h
    obtain ⟨h1, h2, h3⟩ := chunks_get sz n (cs.drop sz) i c (by simp; omega) h
    refine ⟨by omega, h2, fun j hj => ?_⟩
    rw [h3 j hj, List.getElem?_drop, Nat.succ_mul]
    congr 1; omega

theorem chunks_length (sz : Nat) : ∀ (n : Nat) (cs : List AV), (chunks sz n cs).length = n
  | 0, _ => rfl
  | n + 1, cs => by simp [chunks, chunks_length sz n]

/-! ### arithmetic -/
def binA (op : BinOp) (x y : AV) : Option AV :=
  match x, y with
  | .int k a, .int k' b =>
    match op with
    | .shl => if 0 ≤ b then some (.int k (k.wrap (a * 2 ^ (min b.toNat k.bits)))) else none
    | .shr => if 0 ≤ b then some (.int k (a.fdiv (2 ^ (min b.toNat k.bits)))) else none
    | .add => if k = k' then some (.int k (k.wrap (a + b))) else none
    | .sub => if k = k' then some (.int k (k.wrap (a - b))) else none
    | .mul => if k = k' then some (.int k (k.wrap (a * b))) else none
    | .quo => if k = k' then (if b = 0 then none else some (.int k (k.wrap (a.tdiv b)))) else none
    | .rem => if k = k' then (if b = 0 then none else some (.int k (a.tmod b))) else none
    | .and => if k = k' then some (.int k (k.wrap (BitVec.ofInt k.bits a &&& BitVec.ofInt k.bits b).toNat)) else none
    | .or => if k = k' then some (.int k (k.wrap (BitVec.ofInt k.bits a ||| BitVec.ofInt k.bits b).toNat)) else none
    | .xor => if k = k' then some (.int k (k.wrap (BitVec.ofInt k.bits a ^^^ BitVec.ofInt k.bits b).toNat)) else none
    | .andNot => if k = k' then some (.int k (k.wrap (BitVec.ofInt k.bits a &&& ~~~BitVec.ofInt k.bits b).toNat)) else none
    | .eql => if k = k' then some (.bool (decide (a = b))) else none
    | .neq => if k = k' then some (.bool (!decide (a = b))) else none
    | .lss => if k = k' then some (.bool (decide (a < b))) else none
    | .leq => if k = k' then some (.bool (decide (a ≤ b))) else none
    | .gtr => if k = k' then some (.bool (decide (b < a))) else none
    | .geq => if k = k' then some (.bool (decide (b ≤ a))) else none
  | .str a, .str b =>
    match op with
    | .add => if (a.size + b.size : Nat) ≤ 9223372036854775807 then some (.str (a ++ b)) else none
    | .eql => some (.bool (a.toList == b.toList))
    | .neq => some (.bool (!(a.toList == b.toList)))
    | .lss => some (.bool (Op.bytesLess a.toList b.toList))
    | _ => none
  | _, _ => none

theorem bin_sound {K ρ S μ w x v y u r} {op : BinOp} {t : TypeId} (h : RepMu K ρ S μ w) (hv : VR μ ρ S w x v) (hu : VR μ ρ S w y u) (hf : binA op x y = some r) (o1 o2 : Operand) :
    OpOK K ρ S μ w (do eqGuard op t o1 o2 v u; binOp op t v u) r μ := by
  cases x <;> try (simp only [binA] at hf; cases hf; done)
  case int k a =>
    cases y <;> try (simp only [binA] at hf; cases hf; done)
    case int k' b =>
      rw [int_inv hv, int_inv hu]
      have hg : ∀ w : World, (eqGuard op t o1 o2 (.int k a) (.int k' b)).run K.P w = .ok () w := fun w => by cases op <;> rfl
      cases op <;> simp only [binA] at hf
      case shl | shr =>
        all_goals
          split at hf
          · rename_i hb
            cases hf
            have hb' : ¬ b < 0 := by omega
            refine .pure h ?_ (.t (.int _ _))
            simp [hg, binOp, Op.shift, hb']
          · cases hf
      case quo | rem =>
        all_goals
          split at hf
          · rename_i hk
            subst hk
            split at hf
            · cases hf
            · rename_i hb
              cases hf
              refine .pure h ?_ (.t (.int _ _))
              simp [hg, binOp, Op.intDiv, hb]
          · cases hf
      all_goals
        split at hf
        · rename_i hk
          subst hk
          cases hf
          first
            | (refine .pure h ?_ (.t (.int _ _)); simp [hg, binOp, Op.intArith, Op.intBits]; done)
            | (refine .pure h ?_ (.t (.bool _)); simp [hg, binOp, Op.intCmp]; try rfl)
        · cases hf
  case str a =>
    cases y <;> try (simp only [binA] at hf; cases hf; done)
    case str b =>
      rw [str_inv hv, str_inv hu]
      have hg : ∀ w : World, (eqGuard op t o1 o2 (.string a) (.string b)).run K.P w = .ok () w := fun w => by cases op <;> rfl
      cases op <;> simp only [binA] at hf <;> try (cases hf; done)
      case add =>
        split at hf
        · rename_i hb
          cases hf
          refine .pure h ?_ (.t (.str _))
          have : ¬ (IntKind.i64.max < ((a.size + b.size : Nat) : Int)) := by simp [IntKind.max, IntKind.signed, IntKind.bits]; omega
          simp only [Sem.run_bind, hg, Result.andThen_ok, binOp, Op.stringOp]
          rw [if_neg this]; rfl
        · cases hf
      all_goals (cases hf; refine .pure h ?_ (.t (.bool _)); simp [hg, binOp, Op.stringOp])

def unA (op : UnOp) (x : AV) : Option AV :=
  match op, x with
  | .neg, .int k n => some (.int k (k.wrap (0 - n)))
  | .not, .bool b => some (.bool (!b))
  | _, _ => none

theorem un_sound {K ρ S μ w x v r} {op : UnOp} (h : RepMu K ρ S μ w) (hv : VR μ ρ S w x v) (hf : unA op x = some r) : OpOK K ρ S μ w (Op.unary op v) r μ := by
  unfold unA at hf
  split at hf
  · cases hf; rw [int_inv hv]; exact .pure h (by simp [Op.unary, Op.intArith]) (.t (.int _ _))
  · cases hf; rw [bool_inv hv]; exact .pure h (by simp [Op.unary]) (.t (.bool _))
  · cases hf

def convA (k : IntKind) : AV → Option AV
  | .int _ n => some (.int k (k.wrap n))
  | _ => none

theorem conv_sound {K ρ S μ w x v r} {s t : TypeId} {d : TypeDesc} {k : IntKind} (h : RepMu K ρ S μ w) (hv : VR μ ρ S w x v) (hs : K.P.underlying s = some d) (ht : K.P.underlying t = some (.int k)) (hf : convA k x = some r) :
    OpOK K ρ S μ w (convert s t v) r μ := by
  cases x <;> simp only [convA] at hf <;> try (cases hf)
  rw [int_inv hv]
  refine .pure h ?_ (.t (.int _ _))
  simp [convert, run_underlying hs, run_underlying ht, Conv.intToInt]

def mnmx (mx : Bool) (x y : Int) : Int := if mx then (if y > x then y else x) else (if y < x then y else x)

def mmA (mx : Bool) : AV → AV → Option AV
  | .int k a, .int k' b => some (.int k (mnmx mx a b))
  | _, _ => none

theorem mm_sound {K ρ S μ w x v y u r mx} {ts : Array TypeId} {ty : TypeId} (h : RepMu K ρ S μ w) (hv : VR μ ρ S w x v) (hu : VR μ ρ S w y u) (hf : mmA mx x y = some r) :
    OpOK K ρ S μ w (if mx then Builtin.max_ ts ty #[v, u] else Builtin.min_ ts ty #[v, u]) r μ := by
  cases x <;> cases y <;> simp only [mmA] at hf <;> try (cases hf)
  rw [int_inv hv, int_inv hu]
  refine .pure h ?_ (.t (.int _ _))
  cases mx <;> simp [Builtin.max_, Builtin.min_, Builtin.max2, Builtin.min2, mnmx, List.foldlM]

end Go.Av
set_option linter.unusedVariables false
set_option linter.unusedSimpArgs false
namespace Go.Av
open Go.RowKit

/-! ### leaves of values -/
def leafV : LK → Value → Value → Option Bool
  | .i, .int k a, .int k' b => if k = k' then some (a == b) else none
  | .b, .bool a, .bool b => some (a == b)
  | .s, .string a, .string b => some (a == b)
  | _, _, _ => none

def eqV : List (Nat × LK) → List Value → List Value → Option Bool
  | [], _, _ => some true
  | (o, k) :: l, xs, ys =>
    match xs[o]?, ys[o]? with
    | some x, some y => match leafV k x y, eqV l xs ys with | some b, some b' => some (b && b') | _, _ => none
    | _, _ => none

theorem eqV_append : ∀ (l l' : List (Nat × LK)) (xs ys : List Value) (b : Bool), eqV (l ++ l') xs ys = some b → ∃ c c', eqV l xs ys = some c ∧ eqV l' xs ys = some c' ∧ b = (c && c')
  | [], l', xs, ys, b, h => ⟨true, b, rfl, h, rfl⟩
  | (o, k) :: l, l', xs, ys, b, h => by
    simp only [List.cons_append, eqV] at h ⊢
    split at h
    · rename_i x y h1 h2
      split at h
      · rename_i c c' h3 h4
        obtain ⟨d, d', e1, e2, rfl⟩ := eqV_append l l' xs ys c' h4
        simp only [h1, h2, h3, e1]
        cases h
        exact ⟨_, d', rfl, e2, by rw [Bool.and_assoc]⟩
      · cases h
    · cases h

theorem eqV_shift (off : Nat) : ∀ (l : List (Nat × LK)) (xs ys ps qs : List Value) (b : Bool), (∀ p ∈ l, ps[p.1]? = xs[off + p.1]? ∧ qs[p.1]? = ys[off + p.1]?) → eqV (l.map fun p => (off + p.1, p.2)) xs ys = some b → eqV l ps qs = some b
  | [], _, _, _, _, _, _, h => h
  | (o, k) :: l, xs, ys, ps, qs, b, hp, h => by
    simp only [List.map_cons, eqV] at h ⊢
    obtain ⟨h1, h2⟩ := hp (o, k) (by simp)
    simp only at h1 h2
    rw [h1, h2]
    split at h
    · rename_i x y e1 e2
      split at h
      · rename_i c c' e3 e4
        cases h
        simp only [e1, e2, e3, eqV_shift off l xs ys ps qs c' (fun p hp' => hp p (by simp [hp'])) e4]
      · cases h
    · cases h

def leafish : Value → Prop
  | .agg _ => False
  | .tuple _ => False
  | _ => True

/-- The form that a value of a type has. -/
def shaped (P : Program) (t : TypeId) (v : Value) : Prop :=
  match P.underlying t with
  | some d => if aggD d = true then ∃ xs, v = .agg xs else leafish v
  | none => False

theorem run_part_one {P : Program} (w : World) {e : TypeId} {d : TypeDesc} {i : TypeInfo} {off : Nat} {xs : Array Value} (hu : P.underlying e = some d) (hi : P.info? e = some i) (hx : aggD d = false → ∃ u, xs[off]? = some u ∧ leafish u) :
    ∃ p, (part e xs off).run P w = .ok p w ∧ shaped P e p ∧ ∀ j, (aggD d = true → j < i.size) → (aggD d = false → j = 0) → p.cells.toList[j]? = xs.toList[off + j]? := by
  cases hd : aggD d with
  | true =>
    refine ⟨.agg (xs.extract off (off + i.size)), by simp [part, run_isAgg hu, hd, run_sizeOf hi], by simp [shaped, hu, hd], fun j hj _ => ?_⟩
    have hj := hj rfl
    simp only [Value.cells, Array.getElem?_toList, Array.getElem?_extract]
    split
    · rfl
    · symm; rw [Array.getElem?_eq_none]; omega
  | false =>
    obtain ⟨u, h1, h2⟩ := hx hd
    refine ⟨u, by simp [part, run_isAgg hu, hd, h1], by simp only [shaped, hu, hd, Bool.false_eq_true, if_false]; exact h2, fun j _ hj => ?_⟩
    have hj := hj rfl
    subst hj
    cases u <;> simp_all [Value.cells, leafish]

theorem leaves_underlying {P : Program} {n : Nat} {t : TypeId} {l : List (Nat × LK)} (h : leaves P n t = some l) : ∃ d, P.underlying t = some d ∧ (aggD d = false → ∃ k, leafK d = some k ∧ l = [(0, k)]) := by
  cases n with
  | zero => simp [leaves] at h
  | succ n =>
    simp only [leaves] at h
    split at h
    · rename_i fs hu; exact ⟨_, hu, by simp [aggD]⟩
    · rename_i len e hu; exact ⟨_, hu, by simp [aggD]⟩
    · rename_i d h1 h2 hu
      refine ⟨d, hu, fun _ => ?_⟩
      simp only [Option.map_eq_some_iff] at h
      obtain ⟨k, h3, rfl⟩ := h
      exact ⟨k, h3, rfl⟩
    · cases h

theorem leafV_form {k : LK} {x y : Value} {b : Bool} (h : leafV k x y = some b) : leafish x ∧ leafish y := by
  unfold leafV at h
  split at h <;> first | (cases h; done) | exact ⟨trivial, trivial⟩ | (split at h <;> first | (cases h; done) | exact ⟨trivial, trivial⟩)

def EqOK (P : Program) (n : Nat) (rec : TypeId → Option (List (Nat × LK))) : Prop :=
  ∀ (t : TypeId) (l : List (Nat × LK)), rec t = some l → ∀ (d : Nat) (w : World) (v u : Value) (b : Bool), n ≤ d → shaped P t v → shaped P t u → eqV l v.cells.toList u.cells.toList = some b → (Op.equalIn d t v u).run P w = .ok b w

theorem eq_fields {P : Program} {n : Nat} {rec : TypeId → Option (List (Nat × LK))} (hr : EqOK P n rec) (hrl : ∀ t l, rec t = some l → ∃ d, P.underlying t = some d ∧ (aggD d = false → ∃ k, leafK d = some k ∧ l = [(0, k)])) {d : Nat} (hd : n ≤ d) (w : World) (xs ys : Array Value) :
    ∀ (fs : List Field) (l : List (Nat × LK)) (b : Bool), leavesF rec P fs = some l → eqV l xs.toList ys.toList = some b → (Op.eqFields d xs ys fs).run P w = .ok b w
  | [], l, b, h, he => by
    simp [leavesF] at h; subst h
    simp [eqV] at he; subst he
    simp [Op.eqFields]
  | f :: fs, l, b, h, he => by
    simp only [leavesF] at h
    split at h
    · cases h
    rename_i hn
    split at h
    · rename_i i l1 l2 hi h1 h2
      split at h
      · rename_i hall
        cases h
        obtain ⟨c, c', e1, e2, rfl⟩ := eqV_append _ _ _ _ _ he
        obtain ⟨du, hu, hleaf⟩ := hrl _ _ h1
        have hcell : aggD du = false → (∃ u, xs[f.offset]? = some u ∧ leafish u) ∧ ∃ u, ys[f.offset]? = some u ∧ leafish u := by
          intro hag
          obtain ⟨k, hk, rfl⟩ := hleaf hag
          simp only [List.map_cons, List.map_nil, eqV, Nat.add_zero] at e1
          split at e1
          · rename_i x y g1 g2
            split at e1
            · rename_i g3 g4
              obtain ⟨q1, q2⟩ := leafV_form g3
              exact ⟨⟨x, by simpa using g1, q1⟩, ⟨y, by simpa using g2, q2⟩⟩
            · cases e1
          · cases e1
        obtain ⟨p, p1, p2, p3⟩ := run_part_one (P := P) w (off := f.offset) (xs := xs) hu hi (fun h => (hcell h).1)
        obtain ⟨q, q1, q2, q3⟩ := run_part_one (P := P) w (off := f.offset) (xs := ys) hu hi (fun h => (hcell h).2)
        have hin : ∀ z ∈ l1, (aggD du = true → z.1 < i.size) ∧ (aggD du = false → z.1 = 0) := by
          intro z hz
          refine ⟨fun _ => by simpa using List.all_eq_true.1 hall z hz, fun hag => ?_⟩
          obtain ⟨k, hk, rfl⟩ := hleaf hag
          simp at hz; simp [hz]
        have hsub := eqV_shift f.offset l1 xs.toList ys.toList p.cells.toList q.cells.toList c (fun z hz => ⟨p3 z.1 (hin z hz).1 (hin z hz).2, q3 z.1 (hin z hz).1 (hin z hz).2⟩) e1
        have hrun := hr f.type l1 h1 d w p q c hd p2 q2 hsub
        have hrest := eq_fields hr hrl hd w xs ys fs l2 c' h2 e2
        simp only [Op.eqFields, hn, ne_eq, not_false_eq_true, if_true, Sem.run_bind, p1, q1, hrun, Result.andThen_ok]
        cases c
        · simp
        · simpa using hrest
      · cases h
    · cases h

theorem eq_sound {P : Program} : ∀ (n : Nat), EqOK P n (leaves P n)
  | 0 => fun t l h => by simp [leaves] at h
  | n + 1 => by
    intro t l h d w v u b hd hv hu he
    obtain ⟨d, rfl⟩ : ∃ d', d = d' + 1 := ⟨d - 1, by omega⟩
    have hd' : n ≤ d := by omega
    simp only [leaves] at h
    split at h
    · rename_i fs ht
      split at h
      · cases h
      rename_i hst
      simp only [shaped, ht, aggD, if_true] at hv hu
      obtain ⟨xs, rfl⟩ := hv
      obtain ⟨ys, rfl⟩ := hu
      have hfs : P.fieldsOf t = fs := by simp [Program.fieldsOf, ht]
      rw [run_equalIn_struct w d t xs ys (by rw [hfs]; exact ht) (by simpa using hst), hfs]
      exact eq_fields (eq_sound n) (fun t l h => leaves_underlying h) hd' w xs ys fs.toList l b h he
    · rename_i len e ht
      split at h
      · rename_i i l1 hi h1
        split at h
        · rename_i hall
          cases h
          simp only [shaped, ht, aggD, if_true] at hv hu
          obtain ⟨xs, rfl⟩ := hv
          obtain ⟨ys, rfl⟩ := hu
          simp only [Op.equalIn, Sem.run_bind, run_underlying ht, Result.andThen_ok, run_sizeOf hi]
          simp only [Std.Legacy.Range.forIn_eq_forIn_range', Std.Legacy.Range.size, Nat.sub_zero, Nat.add_one_sub_one, Nat.div_one]
          obtain ⟨du, hu, hleaf⟩ := leaves_underlying h1
          have hin : ∀ z ∈ l1, (aggD du = true → z.1 < i.size) ∧ (aggD du = false → z.1 = 0) := by
            intro z hz
            refine ⟨fun _ => by simpa using List.all_eq_true.1 hall z hz, fun hag => ?_⟩
            obtain ⟨k, hk, rfl⟩ := hleaf hag
            simp at hz; simp [hz]
          rw [List.range_eq_range'] at he
          simp only [Value.cells] at he
          generalize List.range' 0 len = is at he
          induction is generalizing b with
          | nil => simp [eqV] at he; subst he; simp
          | cons j is ih =>
            rw [List.flatMap_cons] at he
            obtain ⟨c, c', e1, e2, rfl⟩ := eqV_append _ _ _ _ _ he
            have hcell : aggD du = false → (∃ u, xs[j * i.size]? = some u ∧ leafish u) ∧ ∃ u, ys[j * i.size]? = some u ∧ leafish u := by
              intro hag
              obtain ⟨k, hk, rfl⟩ := hleaf hag
              simp only [List.map_cons, List.map_nil, eqV, Nat.add_zero] at e1
              split at e1
              · rename_i x y g1 g2
                split at e1
                · rename_i g3 g4
                  obtain ⟨q1, q2⟩ := leafV_form g3
                  exact ⟨⟨x, by simpa using g1, q1⟩, ⟨y, by simpa using g2, q2⟩⟩
                · cases e1
              · cases e1
            obtain ⟨p, p1, p2, p3⟩ := run_part_one (P := P) w (off := j * i.size) (xs := xs) hu hi (fun h => (hcell h).1)
            obtain ⟨q, q1, q2, q3⟩ := run_part_one (P := P) w (off := j * i.size) (xs := ys) hu hi (fun h => (hcell h).2)
            have hsub := eqV_shift (j * i.size) l1 xs.toList ys.toList p.cells.toList q.cells.toList c (fun z hz => ⟨p3 z.1 (hin z hz).1 (hin z hz).2, q3 z.1 (hin z hz).1 (hin z hz).2⟩) e1
            have hrun := eq_sound n e l1 h1 d w p q c hd' p2 q2 hsub
            have hrest := ih c' e2
            simp only [List.forIn_cons, Sem.run_bind, p1, q1, hrun, Result.andThen_ok]
            cases c
            · simp
            · simpa using hrest
        · cases h
      · cases h
    · rename_i dd hn1 hn2 ht
      simp only [Option.map_eq_some_iff] at h
      obtain ⟨k, hk, rfl⟩ := h
      have hag : aggD dd = false := by
        cases dd <;> first | rfl | (exact (hn1 _ rfl).elim) | (exact (hn2 _ _ rfl).elim)
      simp only [shaped, ht, hag, Bool.false_eq_true, if_false] at hv hu
      simp only [eqV] at he
      split at he
      · rename_i x y g1 g2
        split at he
        · rename_i c c' g3 g4
          cases g4
          cases he
          have hvx : v = x := by cases v <;> simp_all [Value.cells, leafish]
          have huy : u = y := by cases u <;> simp_all [Value.cells, leafish]
          subst hvx; subst huy
          cases dd <;> simp [leafK] at hk <;> subst hk
          · cases v <;> cases u <;> simp [leafV] at g3
            subst g3
            simp [Op.equalIn, run_underlying ht]
          · cases v <;> cases u <;> simp [leafV] at g3
            obtain ⟨rfl, rfl⟩ := g3
            simp [Op.equalIn, run_underlying ht]
          · cases v <;> cases u <;> simp [leafV] at g3
            subst g3
            simp [Op.equalIn, run_underlying ht]
        · cases he
      · cases he
    · cases h

end Go.Av
set_option linter.unusedVariables false
set_option linter.unusedSimpArgs false
namespace Go.Av
open Go.RowKit

def leafA : LK → AV → AV → Option Bool
  | .i, .int k a, .int k' b => if k = k' then some (decide (a = b)) else none
  | .b, .bool a, .bool b => some (a == b)
  | .s, .str a, .str b => some (a.toList == b.toList)
  | _, _, _ => none

def eqA : List (Nat × LK) → List AV → List AV → Option Bool
  | [], _, _ => some true
  | (o, k) :: l, xs, ys =>
    match xs[o]?, ys[o]? with
    | some x, some y => match leafA k x y, eqA l xs ys with | some b, some b' => some (b && b') | _, _ => none
    | _, _ => none

def CellsRel (μ : List AObj) (ρ : Nat → Option (Nat × Nat)) (S : Nat → Prop) (w : World) (cs : List AV) (vs : List Value) : Prop :=
  cs.length = vs.length ∧ ∀ (i : Nat) c v, cs[i]? = some c → vs[i]? = some v → VR μ ρ S w c v

theorem leafA_rel {μ ρ S w x y v u k b} (hv : VR μ ρ S w x v) (hu : VR μ ρ S w y u) (h : leafA k x y = some b) : leafV k v u = some b := by
  unfold leafA at h
  split at h
  · rw [int_inv hv, int_inv hu]
    split at h <;> cases h
    rename_i hk
    subst hk
    simp only [leafV, if_true, Option.some.injEq]
    rfl
  · rw [bool_inv hv, bool_inv hu]; exact h
  · rw [str_inv hv, str_inv hu]
    cases h
    simp only [leafV, Option.some.injEq]
    exact beq_toListBytes _ _
  · cases h

theorem eqA_rel {μ ρ S w} : ∀ (l : List (Nat × LK)) {cs cs' : List AV} {vs vs' : List Value} {b : Bool}, CellsRel μ ρ S w cs vs → CellsRel μ ρ S w cs' vs' → eqA l cs cs' = some b → eqV l vs vs' = some b
  | [], _, _, _, _, _, _, _, h => h
  | (o, k) :: l, cs, cs', vs, vs', b, h1, h2, h => by
    simp only [eqA, eqV] at h ⊢
    split at h
    · rename_i x y g1 g2
      split at h
      · rename_i c c' g3 g4
        cases h
        have e1 : vs[o]? = some (vs[o]'(by rw [← h1.1]; exact (List.getElem?_eq_some_iff.1 g1).1)) := List.getElem?_eq_getElem _
        have e2 : vs'[o]? = some (vs'[o]'(by rw [← h2.1]; exact (List.getElem?_eq_some_iff.1 g2).1)) := List.getElem?_eq_getElem _
        rw [e1, e2]
        simp only [leafA_rel (h1.2 o _ _ g1 e1) (h2.2 o _ _ g2 e2) g3, eqA_rel l h1 h2 g4]
      · cases h
    · cases h

theorem cells_agg {μ ρ S w cs} {vs : Array Value} (hl : cs.length = vs.size) (hr : ∀ (i : Nat) c u, cs[i]? = some c → vs[i]? = some u → VR μ ρ S w c u) : CellsRel μ ρ S w cs vs.toList :=
  ⟨by simpa using hl, fun i c v a b => hr i c v a (by simpa using b)⟩

def eqvA (neg : Bool) (l : List (Nat × LK)) : AV → AV → Option AV
  | .agg cs, .agg cs' => (eqA l cs cs').map fun b => .bool (neg != b)
  | _, _ => none

theorem eqOp_inv {op : BinOp} {neg : Bool} (h : eqOp op = some neg) : (op = .eql ∧ neg = false) ∨ (op = .neq ∧ neg = true) := by
  cases op <;> simp [eqOp] at h <;> subst h <;> simp

theorem eqv_sound {K ρ S μ w x v y u r} {op : BinOp} {neg : Bool} {t : TypeId} {d : TypeDesc} {l : List (Nat × LK)} (h : RepMu K ρ S μ w) (hv : VR μ ρ S w x v) (hu : VR μ ρ S w y u) (hop : eqOp op = some neg) (ht : K.P.underlying t = some d) (hd : aggD d = true)
    (hg : K.P.eqGuardType K.P.depth t ≠ true) (hl : leaves K.P 30 t = some l) (hf : eqvA neg l x y = some r) (o1 o2 : Operand) :
    OpOK K ρ S μ w (do eqGuard op t o1 o2 v u; binOp op t v u) r μ := by
  unfold eqvA at hf
  split at hf
  · rename_i cs cs'
    simp only [Option.map_eq_some_iff] at hf
    obtain ⟨b, hb, rfl⟩ := hf
    obtain ⟨vs, rfl, k1, k2⟩ := agg_inv hv
    obtain ⟨us, rfl, k3, k4⟩ := agg_inv hu
    have he := eqA_rel l (cells_agg k1 k2) (cells_agg k3 k4) hb
    have hrun := eq_sound 30 t l hl 10000 w (.agg vs) (.agg us) b (by omega) (by simp [shaped, ht, hd]) (by simp [shaped, ht, hd]) he
    have hgd := run_eqGuard_agg w op t o1 o2 vs us (by simpa using hg)
    refine .pure h (v := .bool (neg != b)) ?_ (.t (.bool _))
    rcases eqOp_inv hop with ⟨rfl, rfl⟩ | ⟨rfl, rfl⟩
    · simp only [Sem.run_bind, hgd, Result.andThen_ok, run_eql_struct, hrun]
      cases b <;> rfl
    · simp only [Sem.run_bind, hgd, Result.andThen_ok, run_neq_struct, hrun]
      cases b <;> rfl
  · cases hf

def eqbA (neg : Bool) : AV → AV → Option AV
  | .bool a, .bool b => some (.bool (neg != (a == b)))
  | _, _ => none

theorem eqb_sound {K ρ S μ w x v y u r} {op : BinOp} {neg : Bool} {t : TypeId} (h : RepMu K ρ S μ w) (hv : VR μ ρ S w x v) (hu : VR μ ρ S w y u) (hop : eqOp op = some neg) (ht : K.P.underlying t = some .bool) (hf : eqbA neg x y = some r) (o1 o2 : Operand) :
    OpOK K ρ S μ w (do eqGuard op t o1 o2 v u; binOp op t v u) r μ := by
  unfold eqbA at hf
  split at hf
  · rename_i a b
    cases hf
    rw [bool_inv hv, bool_inv hu]
    have hrun := run_equal_bool w t a b ht
    refine .pure h ?_ (.t (.bool _))
    rcases eqOp_inv hop with ⟨rfl, rfl⟩ | ⟨rfl, rfl⟩
    · simp [eqGuard, binOp, hrun]
    · simp [eqGuard, binOp, hrun]
  · cases hf

/-- Is it nil? -/
def isnilB (k : NK) (x : AV) (μ : List AObj) : Option Bool :=
  match k, x with
  | .p, .nilp => some true
  | .f, .nilfn => some true
  | .i, .nilif => some true
  | .s, .nilsl => some true
  | .m, .nilmap => some true
  | .p, .tptr _ _ => some false
  | .f, .fn _ _ _ => some false
  | .i, .iface _ _ => some false
  | .s, .sl n _ => if 0 < n then some false else none
  | .p, .ptr id g sz i off => (place (.ptr id g sz i off) μ).map fun _ => false
  | .s, .hsl id g sz len => match μ[id]? with | some (.row _ g' _ _) => if g = g' ∧ 0 < len then some false else none | _ => none
  | .m, .mp id => match μ[id]? with | some (.map _) => some false | _ => none
  | _, _ => none

def isNilV : NK → Value → Bool → Prop
  | .p, v, b => ∃ a, v = .pointer a ∧ b = a.isNone
  | .f, v, b => (v = .nilFunc ∧ b = true) ∨ ∃ f x y, v = .func f x y ∧ b = false
  | .i, v, b => (v = .nilIface ∧ b = true) ∨ ∃ t x, v = .iface t x ∧ b = false
  | .s, v, b => ∃ a n c, v = .slice a n c ∧ b = a.isNone
  | .m, v, b => ∃ m, v = .map m ∧ b = m.isNone

theorem isnilB_sound {K ρ S μ w x v b k} (h : RepMu K ρ S μ w) (hv : VR μ ρ S w x v) (hb : isnilB k x μ = some b) : isNilV k v b := by
  unfold isnilB at hb
  split at hb
  case h_1 => cases hb; cases hv with | t h' => cases h'; exact ⟨none, rfl, rfl⟩
  case h_2 => cases hb; cases hv with | t h' => cases h'; exact .inl ⟨rfl, rfl⟩
  case h_3 => cases hb; cases hv with | t h' => cases h'; exact .inl ⟨rfl, rfl⟩
  case h_4 => cases hb; cases hv with | t h' => cases h'; exact ⟨none, 0, 0, rfl, rfl⟩
  case h_5 => cases hb; cases hv with | t h' => cases h'; exact ⟨none, rfl, rfl⟩
  case h_6 => cases hb; cases hv with | t h' => cases h'; exact ⟨_, rfl, rfl⟩
  case h_7 =>
    cases hb
    cases hv with
    | t h' => cases h'; exact .inr ⟨_, _, _, rfl, rfl⟩
    | fn => exact .inr ⟨_, _, _, rfl, rfl⟩
  case h_8 =>
    cases hb
    cases hv with
    | t h' => cases h'; exact .inr ⟨_, _, rfl, rfl⟩
    | iface => exact .inr ⟨_, _, rfl, rfl⟩
  case h_9 =>
    split at hb
    · rename_i hn
      cases hb
      cases hv with
      | t h' => cases h' with
        | sl _ _ a cap val h1 h2 h3 h4 =>
          obtain ⟨b, o, sz, rfl, _⟩ := h3 hn
          exact ⟨_, _, _, rfl, rfl⟩
    · cases hb
  case h_10 =>
    simp only [Option.map_eq_some_iff] at hb
    obtain ⟨y, h1, rfl⟩ := hb
    obtain ⟨b, o, f, rfl, _⟩ := place_sound h h1 hv
    exact ⟨_, rfl, rfl⟩
  case h_11 =>
    split at hb
    · rename_i e' g' s' es ho
      split at hb
      · rename_i hgs
        obtain ⟨rfl, hpos⟩ := hgs
        cases hb
        cases hv with
        | t h' => cases h'
        | hsl h1 h2 h3 => exact ⟨_, _, _, rfl, rfl⟩
        | hsl0 h1 h3 => omega
        | hslOld _ h1 h2 => rw [ho] at h1; cases h1; omega
        | hslGone _ h1 => rw [ho] at h1; cases h1
      · cases hb
    · cases hb
  case h_12 =>
    split at hb
    · rename_i es ho
      cases hb
      cases hv with
      | t h' => cases h'
      | mp h1 h2 => exact ⟨_, rfl, rfl⟩
      | mpI h1 _ => rw [ho] at h1; cases h1
      | mpGone _ h1 => rw [ho] at h1; cases h1
    · cases hb
  case h_13 => cases hb

def isnilA (k : NK) (neg : Bool) (x : AV) (μ : List AObj) : Option AV := (isnilB k x μ).map fun b => .bool (neg != b)

theorem equal_nil {P : Program} {w : World} {t : TypeId} {d : TypeDesc} {c : Value} {k : NK} {v : Value} {b : Bool} (ht : P.underlying t = some d) (hn : nilOf d (.const c) = some k) (hv : isNilV k v b) : (Op.equal t v c).run P w = .ok b w := by
  show (Op.equalIn (9999 + 1) t v c).run P w = .ok b w
  generalize 9999 = n
  unfold nilOf at hn
  split at hn <;> cases hn
  · rename_i hc; cases hc
    obtain ⟨a, rfl, rfl⟩ := hv
    cases a <;> simp [Op.equalIn, run_underlying ht]
  · rename_i hc; cases hc
    rcases hv with ⟨rfl, rfl⟩ | ⟨_, _, _, rfl, rfl⟩ <;> simp [Op.equalIn, run_underlying ht]
  · rename_i hc; cases hc
    rcases hv with ⟨rfl, rfl⟩ | ⟨_, _, rfl, rfl⟩ <;> simp [Op.equalIn, run_underlying ht]
  · rename_i hc; cases hc
    obtain ⟨a, n, c, rfl, rfl⟩ := hv
    cases a <;> simp [Op.equalIn, run_underlying ht]
  · rename_i hc; cases hc
    obtain ⟨m, rfl, rfl⟩ := hv
    cases m <;> simp [Op.equalIn, run_underlying ht]

theorem binOp_nil {t : TypeId} {d : TypeDesc} {c : Value} {k : NK} {v : Value} {b : Bool} (hn : nilOf d (.const c) = some k) (hv : isNilV k v b) :
    binOp .eql t v c = (do pure (.bool (← Op.equal t v c))) ∧ binOp .neq t v c = (do pure (.bool (!(← Op.equal t v c)))) := by
  unfold nilOf at hn
  split at hn <;> cases hn
  · rename_i hc; cases hc
    obtain ⟨a, rfl, rfl⟩ := hv
    exact ⟨rfl, rfl⟩
  · rename_i hc; cases hc
    rcases hv with ⟨rfl, rfl⟩ | ⟨_, _, _, rfl, rfl⟩ <;> exact ⟨rfl, rfl⟩
  · rename_i hc; cases hc
    rcases hv with ⟨rfl, rfl⟩ | ⟨_, _, rfl, rfl⟩ <;> exact ⟨rfl, rfl⟩
  · rename_i hc; cases hc
    obtain ⟨a, n, c, rfl, rfl⟩ := hv
    exact ⟨rfl, rfl⟩
  · rename_i hc; cases hc
    obtain ⟨m, rfl, rfl⟩ := hv
    exact ⟨rfl, rfl⟩

theorem eqGuard_nil {P : Program} {w : World} {op : BinOp} {t : TypeId} {d : TypeDesc} {c : Value} {k : NK} {v : Value} {b : Bool} (o1 : Operand) (hn : nilOf d (.const c) = some k) (hv : isNilV k v b) : (eqGuard op t o1 (.const c) v c).run P w = .ok () w := by
  unfold nilOf at hn
  split at hn <;> cases hn
  · rename_i hc; cases hc
    obtain ⟨a, rfl, rfl⟩ := hv
    cases op <;> simp [eqGuard]
  · rename_i hc; cases hc
    rcases hv with ⟨rfl, rfl⟩ | ⟨_, _, _, rfl, rfl⟩ <;> cases op <;> simp [eqGuard]
  · rename_i hc; cases hc
    rcases hv with ⟨rfl, rfl⟩ | ⟨_, _, rfl, rfl⟩ <;> cases op <;> simp [eqGuard]
  · rename_i hc; cases hc
    obtain ⟨a, n, c, rfl, rfl⟩ := hv
    cases op <;> simp [eqGuard]
  · rename_i hc; cases hc
    obtain ⟨m, rfl, rfl⟩ := hv
    cases op <;> simp [eqGuard]

theorem isnil_sound {K ρ S μ w x v r} {op : BinOp} {neg : Bool} {t : TypeId} {d : TypeDesc} {c : Operand} {ev : Operand → Value} {k : NK} (h : RepMu K ρ S μ w) (hv : VR μ ρ S w x v) (hop : eqOp op = some neg) (ht : K.P.underlying t = some d) (hn : nilOf d c = some k)
    (hev : ∀ k, ev (.const k) = k) (hf : isnilA k neg x μ = some r) (o1 : Operand) : OpOK K ρ S μ w (do eqGuard op t o1 c v (ev c); binOp op t v (ev c)) r μ := by
  unfold isnilA at hf
  simp only [Option.map_eq_some_iff] at hf
  obtain ⟨b, hb, rfl⟩ := hf
  have hnv := isnilB_sound h hv hb
  obtain ⟨cv, rfl⟩ : ∃ cv, c = .const cv := by
    unfold nilOf at hn
    split at hn <;> first | (cases hn; done) | exact ⟨_, rfl⟩
  rw [hev]
  refine .pure h (v := .bool (neg != b)) ?_ (.t (.bool _))
  simp only [Sem.run_bind, eqGuard_nil o1 hn hnv, Result.andThen_ok]
  rcases eqOp_inv hop with ⟨rfl, rfl⟩ | ⟨rfl, rfl⟩
  · rw [(binOp_nil hn hnv).1]; simp [equal_nil ht hn hnv]
  · rw [(binOp_nil hn hnv).2]; simp [equal_nil ht hn hnv]

/-! ### elements of arrays and strings as values -/
def ixVA (agg : Bool) (n sz : Nat) (x i : AV) : Option AV :=
  match i with
  | .int _ v => if 0 ≤ v ∧ v < n then fldA agg sz (v.toNat * sz) x else none
  | _ => none

theorem ixV_sound {K ρ S μ w x v ix u r} {t e : TypeId} {n : Nat} {d : TypeDesc} {i : TypeInfo} (h : RepMu K ρ S μ w) (hv : VR μ ρ S w x v) (hu : VR μ ρ S w ix u) (ht : K.P.underlying t = some (.array n e)) (he : K.P.underlying e = some d) (hi : K.P.info? e = some i)
    (hf : ixVA (aggD d) n i.size x ix = some r) : OpOK K ρ S μ w (Instr.index t v u) r μ := by
  unfold ixVA at hf
  split at hf
  · rename_i k z
    split at hf
    · rename_i hz
      rw [int_inv hu]
      cases x <;> (try (simp only [fldA] at hf; cases hf; done))
      rename_i cs
      obtain ⟨vs, rfl, hl, hr⟩ := agg_inv hv
      obtain ⟨v', w', ρ', S', h1, h2⟩ := part_rel h hl hr he hi hf
      exact ⟨v', w', ρ', S', by simpa [Instr.index, asIntOf, run_underlying ht, hz, run_sizeOf hi] using h1, h2⟩
    · cases hf
  · cases hf

def ixTA (x i : AV) : Option AV :=
  match x, i with
  | .str s, .int _ v => if 0 ≤ v then (s[v.toNat]?).map fun b => .int .u8 b.toNat else none
  | _, _ => none

theorem ixT_sound {K ρ S μ w x v ix u r} {t : TypeId} (h : RepMu K ρ S μ w) (hv : VR μ ρ S w x v) (hu : VR μ ρ S w ix u) (ht : K.P.underlying t = some .string) (hf : ixTA x ix = some r) : OpOK K ρ S μ w (Instr.index t v u) r μ := by
  unfold ixTA at hf
  split at hf
  · rename_i s k z
    split at hf
    · rename_i hz
      simp only [Option.map_eq_some_iff] at hf
      obtain ⟨b, hb, rfl⟩ := hf
      rw [int_inv hu, str_inv hv]
      exact .pure h (by simp [Instr.index, asIntOf, run_underlying ht, hz, hb]) (.t (.int _ _))
    · cases hf
  · cases hf

/-! ### slices -/
def bndA (dflt : Nat) : Option AV → Option Nat
  | none => some dflt
  | some (.int _ v) => if 0 ≤ v then some v.toNat else none
  | _ => none

def oEv (env : List (Nat × AV)) (x : Option SX) : Option AV := x.map (evX env)

theorem bnd_sound {K : Ctx} {μ ρ S w} {x : Option AV} {v : Option Value} {dflt b y : Nat} {code : BoundsCode} (hv : match x, v with | none, none => True | some x, some v => VR μ ρ S w x v | _, _ => False) (hb : bndA dflt x = some b) (hy : b ≤ y) :
    (match v with | some v => Instr.sliceBound v y code | none => pure dflt).run K.P w = .ok b w := by
  cases x with
  | none =>
    cases v with
    | none => simp [bndA] at hb; subst hb; simp
    | some v => exact hv.elim
  | some x =>
    cases v with
    | none => exact hv.elim
    | some v =>
      simp only at hv
      unfold bndA at hb
      split at hb
      · rename_i h1; cases h1
      · rename_i k z h1
        cases h1
        split at hb
        · rename_i hz
          cases hb
          rw [int_inv hv]
          have : z ≤ y := by omega
          simp [Instr.sliceBound, asIntOf, hz, this]
        · cases hb
      · cases hb

end Go.Av
set_option linter.unusedVariables false
set_option linter.unusedSimpArgs false
namespace Go.Av
open Go.RowKit

def ORel (μ : List AObj) (ρ : Nat → Option (Nat × Nat)) (S : Nat → Prop) (w : World) (x : Option AV) (v : Option Value) : Prop :=
  match x, v with
  | none, none => True
  | some x, some v => VR μ ρ S w x v
  | _, _ => False

theorem run_sliceBounds {K : Ctx} {μ ρ S w} {isS : Bool} {xl xh : Option AV} {vl vh : Option Value} {len cap l h : Nat} (h1 : ORel μ ρ S w xl vl) (h2 : ORel μ ρ S w xh vh) (hl : bndA 0 xl = some l) (hh : bndA len xh = some h) (hc : h ≤ cap) (hlh : l ≤ h) :
    (Instr.sliceBounds isS len cap vl vh none).run K.P w = .ok (l, h, cap) w := by
  have b1 := bnd_sound (K := K) (code := if isS then .sliceAcap else .sliceAlen) h2 hh hc
  have b2 := bnd_sound (K := K) (code := .sliceB) h1 hl hlh
  cases vl <;> cases vh
  · simp at b1 b2; subst b1; subst b2; simp [Instr.sliceBounds]
  · simp at b2; subst b2; simp only [] at b1; simp [Instr.sliceBounds, b1]
  · simp at b1; subst b1; simp only [] at b2; simp [Instr.sliceBounds, b2]
  · simp only [] at b1 b2; simp [Instr.sliceBounds, b1, b2]

def slSA (sz : Nat) (x : AV) (lo hi : Option AV) (μ : List AObj) : Option AV :=
  match x with
  | .sl n f =>
    match bndA 0 lo, bndA n hi with
    | some l, some h => if l ≤ h ∧ h ≤ n ∧ (List.range n).all (fun i => decide ((f i).length = sz)) = true then some (.sl (h - l) fun i => f (l + i)) else none
    | _, _ => none
  | .nilsl =>
    match bndA 0 lo, bndA 0 hi with
    | some l, some h => if l = 0 ∧ h = 0 then some .nilsl else none
    | _, _ => none
  | .hsl id g s len =>
    match μ[id]? with
    | some (.row _ g' s' es) =>
      if g = g' ∧ s = s' then
        match bndA 0 lo, bndA len hi with
        | some l, some h => if l = 0 ∧ h ≤ len then some (.hsl id g s h) else none
        | _, _ => none
      else none
    | _ => none
  | _ => none

theorem slS_sound {K ρ S μ w x v r} {t e : TypeId} {i : TypeInfo} {xl xh : Option AV} {vl vh : Option Value} (h : RepMu K ρ S μ w) (hv : VR μ ρ S w x v) (h1 : ORel μ ρ S w xl vl) (h2 : ORel μ ρ S w xh vh) (ht : K.P.underlying t = some (.slice e)) (hi : K.P.info? e = some i)
    (hf : slSA i.size x xl xh μ = some r) : OpOK K ρ S μ w (Instr.sliceAt t v vl vh none) r μ := by
  have hat : ∀ v, (Instr.sliceAt t v vl vh none).run K.P w = (Instr.slice t v vl vh none).run K.P w := fun v => by simp [Instr.sliceAt, run_underlying ht]
  unfold slSA at hf
  split at hf
  · rename_i n f
    split at hf
    · rename_i l hh b1 b2
      split at hf
      · rename_i hb
        cases hf
        cases hv with
        | t h' => cases h' with
          | sl _ _ a cap val k1 k2 k3 k4 =>
            have hr := run_sliceBounds (K := K) (isS := true) (cap := cap) h1 h2 b1 b2 (by omega) hb.1
            refine .pure h (v := .slice (if cap = l then a else a.map (·.add (l * i.size))) (hh - l) (cap - l)) ?_ (.t (.sl _ _ _ _ (fun p q => val (l + p) q) (by omega) (by omega) (fun hpos => ?_) (fun p hp j c hj => k4 (l + p) (by omega) j c hj)))
            · rw [hat]; simp [Instr.slice, run_underlying ht, hr, run_sizeOf hi]
            · obtain ⟨b, o, sz, rfl, hS, hc⟩ := k3 (by omega)
              have hszz : sz = i.size := by rw [← (hc l (by omega)).1]; simpa using List.all_eq_true.1 hb.2.2 l (List.mem_range.2 (by omega))
              subst hszz
              rw [if_neg (by omega)]
              refine ⟨b, o + l * i.size, i.size, by simp [Addr.add], hS, fun p hp => ⟨(hc (l + p) (by omega)).1, fun j hj => ?_⟩⟩
              have := (hc (l + p) (by omega)).2 j hj
              rw [show o + l * i.size + (p * i.size + j) = o + ((l + p) * i.size + j) by rw [Nat.add_mul]; omega]
              exact this
      · cases hf
    · cases hf
  · split at hf
    · rename_i l hh b1 b2
      split at hf
      · rename_i hb
        obtain ⟨rfl, rfl⟩ := hb
        cases hf
        have hv0 : v = .slice none 0 0 := by cases hv with | t h' => cases h'; rfl
        subst hv0
        have hr := run_sliceBounds (K := K) (isS := true) (cap := 0) h1 h2 b1 b2 (by omega) (by omega)
        refine .pure h (v := .slice none 0 0) ?_ (.t .nilsl)
        rw [hat]; simp [Instr.slice, run_underlying ht, hr, run_sizeOf hi]
      · cases hf
    · cases hf
  · rename_i id g sz len
    split at hf
    · rename_i e' g' sz' es ho
      split at hf
      · rename_i hgs
        obtain ⟨rfl, rfl⟩ := hgs
        split at hf
        · rename_i l hh b1 b2
          split at hf
          · rename_i hb
            obtain ⟨rfl, hb⟩ := hb
            cases hf
            cases hv with
            | t h' => cases h'
            | @hsl _ _ _ _ _ _ B cap k1 k2 k3 =>
              rw [ho] at k1; cases k1
              have hcap : len ≤ cap := by
                rcases h.ob id _ ho with ⟨h4, rfl⟩ | ⟨B', cap', cur, h4, h5, h6, h7, h8, h9, h10, h11⟩
                · rw [k3] at h4; cases h4
                · rw [k3] at h4; cases h4; omega
              have hr := run_sliceBounds (K := K) (isS := true) (cap := cap) h1 h2 b1 b2 (by omega) (by omega)
              refine .pure h (v := .slice (some ⟨B, 0, none⟩) hh cap) ?_ (.hsl ho (by omega) k3)
              rw [hat]; simp [Instr.slice, run_underlying ht, hr, run_sizeOf hi, Addr.add]
            | @hsl0 _ _ _ _ _ a k1 k3 =>
              have hh0 : hh = 0 := by omega
              subst hh0
              have hr := run_sliceBounds (K := K) (isS := true) (cap := 0) h1 h2 b1 b2 (by omega) (by omega)
              refine .pure h (v := .slice a 0 0) ?_ (.hsl0 k1 k3)
              rw [hat]; simp [Instr.slice, run_underlying ht, hr, run_sizeOf hi]
            | hslOld _ k1 k2 => rw [ho] at k1; cases k1; omega
            | hslGone _ k1 => rw [ho] at k1; cases k1
          · cases hf
        · cases hf
      · cases hf
    · cases hf
  · cases hf

/-- s[:0:0]: an object without a block. -/
def sl0A (e sz : Nat) (x : AV) (μ : List AObj) : Option (AV × List AObj) :=
  match x with
  | .sl _ _ => some (.hsl μ.length 0 sz 0, μ ++ [.row e 0 sz []])
  | .nilsl => some (.hsl μ.length 0 sz 0, μ ++ [.row e 0 sz []])
  | .hsl id g s len => match μ[id]? with | some (.row _ g' s' es) => if g = g' ∧ s = s' then some (.hsl μ.length 0 sz 0, μ ++ [.row e 0 sz []]) else none | _ => none
  | _ => none

theorem isZero_ev {x : Option Operand} {ev : Operand → Value} (hev : ∀ k, ev (.const k) = k) (h : isZero x = true) : ∃ k, x.map ev = some (.int k 0) := by
  unfold isZero at h
  split at h
  · exact ⟨_, by simp [hev]; rfl⟩
  · cases h

theorem sl0_sound {K ρ S μ w x v r μ'} {t e : TypeId} {i : TypeInfo} {k1 k2 : IntKind} (h : RepMu K ρ S μ w) (hv : VR μ ρ S w x v) (ht : K.P.underlying t = some (.slice e)) (hi : K.P.info? e = some i)
    (hf : sl0A e i.size x μ = some (r, μ')) : OpOK K ρ S μ w (Instr.sliceAt t v none (some (.int k1 0)) (some (.int k2 0))) r μ' := by
  have key : ∀ a n c, v = .slice a n c → OpOK K ρ S μ w (Instr.sliceAt t v none (some (.int k1 0)) (some (.int k2 0))) (.hsl μ.length 0 i.size 0) (μ ++ [.row e 0 i.size []]) := by
    rintro a n c rfl
    obtain ⟨a1, a2⟩ := h.addNil e i.size
    refine ⟨.slice a 0 0, w, _, S, ?_, .hsl0 (e := e) (es := []) (by simp) (by simp), a1, a2⟩
    simp [Instr.sliceAt, Instr.slice, Instr.sliceBounds, Instr.sliceBound, asIntOf, run_underlying ht, run_sizeOf hi]
  unfold sl0A at hf
  split at hf
  · cases hf
    cases hv with
    | t h' => cases h' with | sl _ _ a cap val _ _ _ _ => exact key _ _ _ rfl
  · cases hf
    cases hv with
    | t h' => cases h'; exact key _ _ _ rfl
  · split at hf
    · rename_i e' g' s' es ho
      split at hf
      · rename_i hgs
        obtain ⟨rfl, rfl⟩ := hgs
        cases hf
        cases hv with
        | t h' => cases h'
        | hsl _ _ _ => exact key _ _ _ rfl
        | hsl0 _ _ => exact key _ _ _ rfl
        | hslOld _ k1 k2 => rw [ho] at k1; cases k1; omega
        | hslGone _ k1 => rw [ho] at k1; cases k1
      · cases hf
    · cases hf
  · cases hf

def slTA (x : AV) (lo hi : Option AV) : Option AV :=
  match x with
  | .str s =>
    match bndA 0 lo, bndA s.size hi with
    | some l, some h => if l ≤ h ∧ h ≤ s.size then some (.str (s.extract l h)) else none
    | _, _ => none
  | _ => none

theorem slT_sound {K ρ S μ w x v r} {t : TypeId} {xl xh : Option AV} {vl vh : Option Value} (h : RepMu K ρ S μ w) (hv : VR μ ρ S w x v) (h1 : ORel μ ρ S w xl vl) (h2 : ORel μ ρ S w xh vh) (ht : K.P.underlying t = some .string)
    (hf : slTA x xl xh = some r) : OpOK K ρ S μ w (Instr.sliceAt t v vl vh none) r μ := by
  unfold slTA at hf
  split at hf
  · rename_i s
    split at hf
    · rename_i l hh b1 b2
      split at hf
      · rename_i hb
        cases hf
        rw [str_inv hv]
        have hr := run_sliceBounds (K := K) (isS := false) (cap := s.size) h1 h2 b1 b2 hb.2 hb.1
        exact .pure h (by simp [Instr.sliceAt, run_underlying ht, Instr.slice, hr]) (.t (.str _))
      · cases hf
    · cases hf
  · cases hf

def slAA (n sz : Nat) (x : AV) (lo hi : Option AV) : Option AV :=
  match x with
  | .tptr cs off =>
    match bndA 0 lo, bndA n hi with
    | some l, some h => if l ≤ h ∧ h ≤ n ∧ off + n * sz ≤ cs.length ∧ n ≤ 16777216 then some (.sl (h - l) fun i => (cs.drop (off + (l + i) * sz)).take sz) else none
    | _, _ => none
  | _ => none

theorem slA_sound {K ρ S μ w x v r} {t e : TypeId} {n : Nat} {i : TypeInfo} {xl xh : Option AV} {vl vh : Option Value} (h : RepMu K ρ S μ w) (hv : VR μ ρ S w x v) (h1 : ORel μ ρ S w xl vl) (h2 : ORel μ ρ S w xh vh) (ht : K.P.underlying t = some (.array n e)) (hi : K.P.info? e = some i)
    (hf : slAA n i.size x xl xh = some r) : OpOK K ρ S μ w (Instr.sliceAt t v vl vh none) r μ := by
  unfold slAA at hf
  split at hf
  · rename_i cs off
    split at hf
    · rename_i l hh b1 b2
      split at hf
      · rename_i hb
        cases hf
        have hr := run_sliceBounds (K := K) (isS := false) (cap := n) h1 h2 b1 b2 hb.2.1 hb.1
        cases hv with
        | t h' => cases h' with
          | tptr _ _ b o val hS hc hvt =>
            have hle : ∀ p, p < hh - l → off + (l + p) * i.size + i.size ≤ cs.length := fun p hp => by
              have : (l + p) * i.size + i.size ≤ n * i.size := by rw [← Nat.succ_mul]; exact Nat.mul_le_mul_right _ (by omega)
              omega
            refine .pure h (v := .slice (some (if n = l then ⟨b, o + off, none⟩ else Addr.add ⟨b, o + off, none⟩ (l * i.size))) (hh - l) (n - l)) ?_ (.t (.sl _ _ _ _ (fun p q => val (off + (l + p) * i.size + q)) (by omega) (by simp only [maxLen]; omega) (fun hpos => ?_) (fun p hp j c hj => ?_)))
            · simp [Instr.sliceAt, run_underlying ht, Instr.sureAddr, hr, run_sizeOf hi]
            · rw [if_neg (by omega)]
              refine ⟨b, o + off + l * i.size, i.size, by simp [Addr.add], hS, fun p hp => ⟨?_, fun j hj => ?_⟩⟩
              · have := hle p hp
                simp; omega
              · have hlt : off + (l + p) * i.size + j < cs.length := by have := hle p hp; omega
                have := hc _ hlt
                rw [show o + off + l * i.size + (p * i.size + j) = o + (off + (l + p) * i.size + j) by rw [Nat.add_mul]; omega]
                exact this
            · rw [List.getElem?_take] at hj
              split at hj
              · rw [List.getElem?_drop] at hj
                exact hvt _ c hj
              · cases hj
      · cases hf
    · cases hf
  · cases hf

end Go.Av
set_option linter.unusedVariables false
set_option linter.unusedSimpArgs false
namespace Go.Av
open Go.RowKit

/-! ### keys, as the machine holds them -/
def findV (l : List (Nat × LK)) (k : Value) : List MapEntry → Nat → Option (Option (Nat × Value))
  | [], _ => some none
  | e :: es, i =>
    match eqV l k.cells.toList e.key.cells.toList with
    | some true => some (some (i, e.val))
    | some false => findV l k es (i + 1)
    | none => none

theorem findAsking_V {P : Program} {w : World} {kt : TypeId} {l : List (Nat × LK)} {k : Value} (hl : leaves P 30 kt = some l) (hk : shaped P kt k) : ∀ (es : List MapEntry) (i : Nat) (r : Option (Nat × Value)), (∀ e ∈ es, shaped P kt e.key) → findV l k es i = some r →
    (Instr.findAsking kt k es i).run P w = .ok r w
  | [], i, r, _, h => by simp [findV] at h; subst h; simp [Instr.findAsking]
  | e :: es, i, r, hs, h => by
    simp only [findV] at h
    split at h
    · rename_i he
      cases h
      have : (Op.equal kt k e.key).run P w = .ok true w := eq_sound 30 kt l hl 10000 w k e.key true (by omega) hk (hs e (by simp)) he
      simp [Instr.findAsking, this]
    · rename_i he
      have h1 : (Op.equal kt k e.key).run P w = .ok false w := eq_sound 30 kt l hl 10000 w k e.key false (by omega) hk (hs e (by simp)) he
      have h2 := findAsking_V (w := w) hl hk es (i + 1) r (fun x hx => hs x (by simp [hx])) h
      simp [Instr.findAsking, h1, h2]
    · cases h

theorem findNow_V {P : Program} {kt : TypeId} {d : TypeDesc} {l : List (Nat × LK)} {k : Value} (ht : P.underlying kt = some d) (hl : leaves P 30 kt = some l) (hk : shaped P kt k) : ∀ (es : List MapEntry) (i : Nat) (r r' : Option (Nat × Value)), (∀ e ∈ es, shaped P kt e.key) → findV l k es i = some r →
    Instr.findNow d k es i = some r' → r' = r
  | [], i, r, r', _, h, h' => by simp [findV] at h; simp [Instr.findNow] at h'; rw [← h, ← h']
  | e :: es, i, r, r', hs, h, h' => by
    simp only [findV, Instr.findNow] at h h'
    have key : ∀ b b', Instr.sameNow d k e.key = some b → eqV l k.cells.toList e.key.cells.toList = some b' → b = b' := by
      intro b b' h1 h2
      obtain ⟨d', hd', hleaf⟩ := leaves_underlying hl
      rw [ht] at hd'; cases hd'
      unfold Instr.sameNow at h1
      split at h1
      · rename_i k0 ka a kb b0 e1 e2
        obtain ⟨kk, hkk, rfl⟩ := hleaf rfl
        simp [leafK] at hkk; subst hkk
        split at h1
        · rename_i hkab; subst hkab
          cases h1
          simp [Value.cells, e2, eqV, leafV] at h2
          exact h2
        · cases h1
      · rename_i a b0 e1 e2
        obtain ⟨kk, hkk, rfl⟩ := hleaf rfl
        simp [leafK] at hkk; subst hkk
        cases h1
        simp [Value.cells, e2, eqV, leafV] at h2
        exact h2
      · rename_i a b0 e1 e2
        obtain ⟨kk, hkk, rfl⟩ := hleaf rfl
        simp [leafK] at hkk; subst hkk
        cases h1
        simp [Value.cells, e2, eqV, leafV] at h2
        exact h2
      · cases h1
    split at h'
    · rename_i g1
      split at h
      · cases h; cases h'; rfl
      · rename_i g2; have := key _ _ g1 g2; cases this
      · cases h
    · rename_i g1
      split at h
      · rename_i g2; have := key _ _ g1 g2; cases this
      · exact findNow_V ht hl hk es (i + 1) r r' (fun x hx => hs x (by simp [hx])) h h'
      · cases h
    · cases h'

theorem findKey_V {P : Program} {w : World} {kt : TypeId} {d : TypeDesc} {l : List (Nat × LK)} {k : Value} {es : List MapEntry} {r : Option (Nat × Value)} (ht : P.underlying kt = some d) (hl : leaves P 30 kt = some l) (hk : shaped P kt k) (hs : ∀ e ∈ es, shaped P kt e.key)
    (h : findV l k es 0 = some r) : (Instr.findKey kt k es).run P w = .ok r w := by
  simp only [Instr.findKey, Sem.run_bind, run_underlying ht, Result.andThen_ok]
  split
  · rename_i r' h'
    rw [findNow_V ht hl hk es 0 r r' hs h h']; simp
  · exact findAsking_V hl hk es 0 r hs h

def CheckOK (P : Program) (n : Nat) (rec : TypeId → Option (List (Nat × LK))) : Prop :=
  ∀ (t : TypeId) (l : List (Nat × LK)), rec t = some l → ∀ (d : Nat) (em : Bool) (w : World) (v : Value), n ≤ d → shaped P t v → (∀ p ∈ l, ∃ u, v.cells.toList[p.1]? = some u ∧ leafish u) → (Instr.checkKey em d t v).run P w = .ok () w

theorem check_sound {P : Program} : ∀ (n : Nat), CheckOK P n (leaves P n)
  | 0 => fun t l h => by simp [leaves] at h
  | n + 1 => by
    intro t l h d em w v hd hv hall
    obtain ⟨d, rfl⟩ : ∃ d', d = d' + 1 := ⟨d - 1, by omega⟩
    have hd' : n ≤ d := by omega
    simp only [leaves] at h
    split at h
    · rename_i fs ht
      split at h
      · cases h
      simp only [shaped, ht, aggD, if_true] at hv
      obtain ⟨xs, rfl⟩ := hv
      rw [Instr.checkKey]
      simp only [Sem.run_bind, run_underlying ht, Result.andThen_ok]
      rw [← Array.forIn_toList]
      generalize fs.toList = L at h
      clear ht
      induction L generalizing l with
      | nil => simp
      | cons f L ih =>
        simp only [leavesF] at h
        split at h
        · cases h
        rename_i hn
        split at h
        · rename_i i l1 l2 hi h1 h2
          split at h
          · rename_i hin0
            cases h
            obtain ⟨du, hu, hleaf⟩ := leaves_underlying h1
            have hin : ∀ z ∈ l1, (aggD du = true → z.1 < i.size) ∧ (aggD du = false → z.1 = 0) := by
              intro z hz
              refine ⟨fun _ => by simpa using List.all_eq_true.1 hin0 z hz, fun hag => ?_⟩
              obtain ⟨k, hk, rfl⟩ := hleaf hag
              simp at hz; simp [hz]
            obtain ⟨p, p1, p2, p3⟩ := run_part_one (P := P) w (off := f.offset) (xs := xs) hu hi (fun hag => by
              obtain ⟨k, hk, rfl⟩ := hleaf hag
              obtain ⟨u, u1, u2⟩ := hall (f.offset + 0, k) (by simp)
              exact ⟨u, by simpa [Value.cells] using u1, u2⟩)
            have hrun := check_sound n f.type l1 h1 d em w p hd' p2 (fun z hz => by
              obtain ⟨u, u1, u2⟩ := hall (f.offset + z.1, z.2) (List.mem_append_left _ (List.mem_map.2 ⟨z, hz, rfl⟩))
              exact ⟨u, by rw [p3 z.1 (hin z hz).1 (hin z hz).2]; exact u1, u2⟩)
            simp only [List.forIn_cons, Sem.run_bind, hn, ne_eq, not_false_eq_true, if_true, Result.andThen_ok, p1, hrun, Sem.run_pure]
            exact ih l2 (fun z hz => hall z (by simp [hz])) h2
          · cases h
        · cases h
    · rename_i len e ht
      split at h
      · rename_i i l1 hi h1
        split at h
        · rename_i hin0
          cases h
          simp only [shaped, ht, aggD, if_true] at hv
          obtain ⟨xs, rfl⟩ := hv
          rw [Instr.checkKey]
          simp only [Sem.run_bind, run_underlying ht, Result.andThen_ok]
          simp only [Std.Legacy.Range.forIn_eq_forIn_range', Std.Legacy.Range.size, Nat.sub_zero, Nat.add_one_sub_one, Nat.div_one]
          obtain ⟨du, hu, hleaf⟩ := leaves_underlying h1
          have hin : ∀ z ∈ l1, (aggD du = true → z.1 < i.size) ∧ (aggD du = false → z.1 = 0) := by
            intro z hz
            refine ⟨fun _ => by simpa using List.all_eq_true.1 hin0 z hz, fun hag => ?_⟩
            obtain ⟨k, hk, rfl⟩ := hleaf hag
            simp at hz; simp [hz]
          rw [List.range_eq_range'] at hall
          generalize List.range' 0 len = is at hall
          induction is with
          | nil => simp
          | cons j is ih =>
            rw [List.flatMap_cons] at hall
            obtain ⟨p, p1, p2, p3⟩ := run_part_one (P := P) w (off := j * i.size) (xs := xs) hu hi (fun hag => by
              obtain ⟨k, hk, rfl⟩ := hleaf hag
              obtain ⟨u, u1, u2⟩ := hall (j * i.size + 0, k) (by simp)
              exact ⟨u, by simpa [Value.cells] using u1, u2⟩)
            have hrun := check_sound n e l1 h1 d em w p hd' p2 (fun z hz => by
              obtain ⟨u, u1, u2⟩ := hall (j * i.size + z.1, z.2) (List.mem_append_left _ (List.mem_map.2 ⟨z, hz, rfl⟩))
              exact ⟨u, by rw [p3 z.1 (hin z hz).1 (hin z hz).2]; exact u1, u2⟩)
            simp only [List.forIn_cons, Sem.run_bind, run_sizeOf hi, Result.andThen_ok, p1, hrun, Sem.run_pure]
            exact ih (fun z hz => hall z (List.mem_append_right _ hz))
        · cases h
      · cases h
    · rename_i dd hn1 hn2 ht
      simp only [Option.map_eq_some_iff] at h
      obtain ⟨k, hk, rfl⟩ := h
      rw [Instr.checkKey]
      simp only [Sem.run_bind, run_underlying ht, Result.andThen_ok]
      cases dd <;> simp [leafK] at hk <;> cases v <;> simp
    · cases h

theorem ba_eq {a b : ByteArray} (h : (a == b) = true) : a = b := by
  rw [beq_toListBytes, ByteArray.toList_eq, ByteArray.toList_eq] at h
  have := eq_of_beq h
  obtain ⟨⟨x⟩⟩ := a
  obtain ⟨⟨y⟩⟩ := b
  simp at this
  rw [this]

theorem ba_refl (a : ByteArray) : (a == a) = true := by rw [beq_toListBytes]; simp

theorem eqV_cells : ∀ (l : List (Nat × LK)) (n : Nat) (xs ys : List Value), xs.length = n + l.length → ys.length = n + l.length → (∀ (i : Nat) p, l[i]? = some p → p.1 = n + i) → eqV l xs ys = some true → xs.drop n = ys.drop n
  | [], n, xs, ys, hx, hy, _, _ => by simp at hx hy; rw [List.drop_eq_nil_of_le (by omega), List.drop_eq_nil_of_le (by omega)]
  | (o, k) :: l, n, xs, ys, hx, hy, hc, h => by
    simp only [List.length_cons] at hx hy
    have ho := hc 0 _ rfl
    simp at ho; subst ho
    have e1 : xs[o]? = some xs[o] := List.getElem?_eq_getElem (by omega)
    have e2 : ys[o]? = some ys[o] := List.getElem?_eq_getElem (by omega)
    simp only [eqV, e1, e2] at h
    split at h
    · rename_i c c' g1 g2
      simp only [Option.some.injEq, Bool.and_eq_true] at h
      obtain ⟨rfl, rfl⟩ := h
      have hv : xs[o] = ys[o] := by
        unfold leafV at g1
        split at g1
        · rename_i h1 h2
          split at g1 <;> simp at g1
          rename_i hkk
          rw [h1, h2, hkk, g1]
        · rename_i h1 h2; simp at g1; rw [h1, h2, g1]
        · rename_i h1 h2; simp only [Option.some.injEq] at g1; rw [h1, h2, ba_eq g1]
        · cases g1
      have hrest := eqV_cells l (o + 1) xs ys (by omega) (by omega) (fun i p hp => by have := hc (i + 1) p (by simpa using hp); omega) g2
      rw [List.drop_eq_getElem_cons (by omega : o < xs.length), List.drop_eq_getElem_cons (by omega : o < ys.length), hv, hrest]
    · cases h

theorem cover_get {l : List (Nat × LK)} (h : coverB l = true) (i : Nat) (p : Nat × LK) (hp : l[i]? = some p) : p.1 = 0 + i := by
  have := List.all_eq_true.1 h (p, i) (by
    rw [List.mem_iff_getElem?]
    exact ⟨i, by simp [List.getElem?_zipIdx, hp]⟩)
  simpa using this

def isLeafV : Value → Prop
  | .int _ _ => True
  | .bool _ => True
  | .string _ => True
  | _ => False

theorem sameBits_leaf {v : Value} (n : Nat) (h : isLeafV v) : Instr.sameBits n v v = true := by
  cases v <;> simp [isLeafV] at h <;> cases n <;> simp [Instr.sameBits, ba_refl]

theorem sameBits_agg {xs : Array Value} (h : ∀ x ∈ xs.toList, isLeafV x) : Instr.sameBits 10000 (.agg xs) (.agg xs) = true := by
  show Instr.sameBits (9999 + 1) (.agg xs) (.agg xs) = true
  simp only [Instr.sameBits, beq_self_eq_true, Bool.true_and, List.all_eq_true]
  intro p hp
  obtain ⟨i, hi, e⟩ := List.getElem_of_mem hp
  rw [List.getElem_zip] at e
  rw [← e]
  exact sameBits_leaf _ (h _ (List.getElem_mem _))

end Go.Av
set_option linter.unusedVariables false
set_option linter.unusedSimpArgs false
namespace Go.Av
open Go.RowKit

def leafB : AV → Bool
  | .int _ _ => true
  | .bool _ => true
  | .str _ => true
  | _ => false

theorem cells_leaf {v : Value} (h : leafish v) : v.cells = #[v] := by
  cases v <;> first | rfl | (exact h.elim)

/-- Keys that can be looked for: of the right form, leaves alone. -/
def keyOK (agg : Bool) (l : List (Nat × LK)) (k : AV) : Bool :=
  (match k with | .agg _ => agg | _ => !agg) && (cellsOf k).all leafB && decide ((cellsOf k).length = l.length) && coverB l

def findA (l : List (Nat × LK)) (k : AV) : List (AV × AV) → Nat → Option (Option (Nat × AV))
  | [], _ => some none
  | (k', v) :: es, i =>
    match eqA l (cellsOf k) (cellsOf k') with
    | some true => some (some (i, v))
    | some false => findA l k es (i + 1)
    | none => none

theorem leafB_rel {μ ρ S w c u} (h : leafB c = true) (hv : VR μ ρ S w c u) : leafish u ∧ VT S w c u ∧ isLeafV u := by
  cases c <;> simp [leafB] at h
  · have := int_inv hv; subst this; exact ⟨trivial, .int _ _, trivial⟩
  · have := bool_inv hv; subst this; exact ⟨trivial, .bool _, trivial⟩
  · have := str_inv hv; subst this; exact ⟨trivial, .str _, trivial⟩

theorem key_rel {P : Program} {μ ρ S w k v} {t : TypeId} {d : TypeDesc} {l : List (Nat × LK)} (hv : VR μ ρ S w k v) (ht : P.underlying t = some d) (hk : keyOK (aggD d) l k = true) :
    shaped P t v ∧ VT S w k v ∧ CellsRel μ ρ S w (cellsOf k) v.cells.toList ∧ v.cells.toList.length = l.length ∧ (∀ p ∈ l, ∃ u, v.cells.toList[p.1]? = some u ∧ leafish u) ∧ Instr.sameBits 10000 v v = true := by
  simp only [keyOK, Bool.and_eq_true, decide_eq_true_eq] at hk
  obtain ⟨⟨⟨h1, h2⟩, h3⟩, h4⟩ := hk
  have fin : ∀ (cs : List AV) (vs : List Value), cs = cellsOf k → vs = v.cells.toList → CellsRel μ ρ S w cs vs → vs.length = l.length ∧ ∀ p ∈ l, ∃ u, vs[p.1]? = some u ∧ leafish u := by
    intro cs vs e1 e2 hr
    have hlen : vs.length = l.length := by rw [← hr.1, e1, h3]
    refine ⟨hlen, fun p hp => ?_⟩
    obtain ⟨i, hi⟩ := List.mem_iff_getElem?.1 hp
    have hpi := cover_get h4 i p hi
    have hlt := (List.getElem?_eq_some_iff.1 hi).1
    have e3 : vs[p.1]? = some (vs[p.1]'(by omega)) := List.getElem?_eq_getElem _
    have hclt : p.1 < cs.length := by rw [hr.1]; omega
    have e4 : cs[p.1]? = some cs[p.1] := List.getElem?_eq_getElem _
    exact ⟨_, e3, (leafB_rel (List.all_eq_true.1 h2 _ (by rw [← e1]; exact List.getElem_mem _)) (hr.2 _ _ _ e4 e3)).1⟩
  cases k
  case agg cs =>
    simp only [cellsOf] at h1 h2 h3 fin ⊢
    obtain ⟨vs, rfl, k1, k2⟩ := agg_inv hv
    have hcr := cells_agg k1 k2
    obtain ⟨f1, f2⟩ := fin cs vs.toList rfl rfl hcr
    refine ⟨by simp [shaped, ht, h1], .agg _ _ k1 fun i c u a b => (leafB_rel (List.all_eq_true.1 h2 _ (List.mem_of_getElem? a)) (k2 i c u a b)).2.1, hcr, f1, f2, sameBits_agg ?_⟩
    intro x hx
    obtain ⟨i, hi⟩ := List.mem_iff_getElem?.1 hx
    have hlt : i < cs.length := by rw [k1]; have := (List.getElem?_eq_some_iff.1 hi).1; simpa using this
    have e4 : cs[i]? = some cs[i] := List.getElem?_eq_getElem _
    exact (leafB_rel (List.all_eq_true.1 h2 _ (List.getElem_mem _)) (k2 i _ x e4 (by simpa using hi))).2.2
  all_goals
    simp only [cellsOf, List.all_cons, List.all_nil, Bool.and_true, leafB, Bool.false_eq_true] at h2
  all_goals
    simp only [cellsOf, Bool.not_eq_true'] at h1 h3 fin ⊢
    first
      | (have hvv := int_inv hv; subst hvv
         have hcr : CellsRel μ ρ S w [_] [_] := ⟨rfl, fun i c u a b => by cases i <;> simp at a b; subst a; subst b; exact hv⟩
         obtain ⟨f1, f2⟩ := fin _ _ rfl rfl hcr
         exact ⟨by simp [shaped, ht, h1, leafish], .int _ _, hcr, f1, f2, sameBits_leaf _ trivial⟩)
      | (have hvv := bool_inv hv; subst hvv
         have hcr : CellsRel μ ρ S w [_] [_] := ⟨rfl, fun i c u a b => by cases i <;> simp at a b; subst a; subst b; exact hv⟩
         obtain ⟨f1, f2⟩ := fin _ _ rfl rfl hcr
         exact ⟨by simp [shaped, ht, h1, leafish], .bool _, hcr, f1, f2, sameBits_leaf _ trivial⟩)
      | (have hvv := str_inv hv; subst hvv
         have hcr : CellsRel μ ρ S w [_] [_] := ⟨rfl, fun i c u a b => by cases i <;> simp at a b; subst a; subst b; exact hv⟩
         obtain ⟨f1, f2⟩ := fin _ _ rfl rfl hcr
         exact ⟨by simp [shaped, ht, h1, leafish], .str _, hcr, f1, f2, sameBits_leaf _ trivial⟩)

/-- How a map's entries stand to the machine's. -/
def EntRel (μ : List AObj) (ρ : Nat → Option (Nat × Nat)) (S : Nat → Prop) (w : World) (es : List (AV × AV)) (ms : List MapEntry) : Prop :=
  ms.length = es.length ∧ ∀ (i : Nat) (k v : AV), es[i]? = some (k, v) → ∃ en : MapEntry, ms[i]? = some en ∧ VT S w k en.key ∧ VR μ ρ S w v en.val

theorem EntRel.tail {μ ρ S w p es m ms} (h : EntRel μ ρ S w (p :: es) (m :: ms)) : EntRel μ ρ S w es ms :=
  ⟨by simpa using h.1, fun i k v hi => by simpa using h.2 (i + 1) k v (by simpa using hi)⟩

theorem findA_rel {μ ρ S w k v} {l : List (Nat × LK)} (hcr : CellsRel μ ρ S w (cellsOf k) v.cells.toList) {agg : Bool} : ∀ (es : List (AV × AV)) (ms : List MapEntry) (i : Nat) (r : Option (Nat × AV)), EntRel μ ρ S w es ms →
    (∀ p ∈ es, keyOK agg l p.1 = true) → (∀ k' v', keyOK agg l k' = true → VR μ ρ S w k' v' → CellsRel μ ρ S w (cellsOf k') v'.cells.toList) → findA l k es i = some r →
    ∃ r', findV l v ms i = some r' ∧ (match r, r' with
      | none, none => True
      | some (j, x), some (j', u) => j' = j ∧ VR μ ρ S w x u ∧ i ≤ j ∧ ∃ kk, es[j - i]? = some (kk, x) ∧ eqA l (cellsOf k) (cellsOf kk) = some true
      | _, _ => False)
  | [], ms, i, r, he, _, _, h => by
    have : ms = [] := List.eq_nil_of_length_eq_zero (by simpa using he.1)
    subst this
    simp [findA] at h; subst h
    exact ⟨none, rfl, trivial⟩
  | (k', x) :: es, [], i, r, he, _, _, h => by have := he.1; simp at this
  | (k', x) :: es, m :: ms, i, r, he, hk, hc, h => by
    obtain ⟨en, e1, e2, e3⟩ := he.2 0 k' x rfl
    simp at e1; subst e1
    have hck := hc k' m.key (hk (k', x) (by simp)) (.t e2)
    simp only [findA, findV] at h ⊢
    split at h
    · rename_i g
      cases h
      rw [eqA_rel l hcr hck g]
      exact ⟨_, rfl, rfl, e3, Nat.le_refl _, k', by simp, g⟩
    · rename_i g
      rw [eqA_rel l hcr hck g]
      obtain ⟨r', r1, r2⟩ := findA_rel hcr es ms (i + 1) r he.tail (fun p hp => hk p (by simp [hp])) hc h
      refine ⟨r', r1, ?_⟩
      cases r <;> cases r' <;> simp only at r2 ⊢
      obtain ⟨a, b, c, kk, d, e⟩ := r2
      refine ⟨a, b, by omega, kk, ?_, e⟩
      rename_i p q
      rw [show p.1 - i = (p.1 - (i + 1)) + 1 by omega]
      simpa using d
    · cases h

/-! ### maps -/
def mkMA (μ : List AObj) : AV × List AObj := (.mp μ.length, μ ++ [.map []])

theorem mkM_sound {K ρ S μ w} {t : TypeId} (h : RepMu K ρ S μ w) : OpOK K ρ S μ w (Instr.makeMap t none) (mkMA μ).1 (mkMA μ).2 := by
  obtain ⟨a1, a2⟩ := h.allocO (.map []) (.map #[] 0) 0 fun ρ' hr k => ⟨w.heap.size, 0, #[], 0, hr, h.size, fun hs => Nat.lt_irrefl _ (h.st _ hs), heap_alloc_new w _, [], .refl _, ⟨rfl, fun i en h => by simp at h, fun i j en en' h => by simp at h⟩, by simp⟩
  exact ⟨.map (some w.heap.size), _, _, S, by simp [Instr.makeMap, run_newObj_alloc], .mp (es := []) (cap := 0) (by simp [mkMA]) (by simp), a1, a2⟩

def okA (ok : Bool) (x : AV) (b : Bool) : AV := if ok then .tup [x, .bool b] else x

theorem okA_rel {μ ρ S w x u ok b} (h : VR μ ρ S w x u) : VR μ ρ S w (okA ok x b) (if ok then .tuple #[u, .bool b] else u) := by
  cases ok
  · exact h
  · refine .tup _ _ rfl fun i c v a e => ?_
    match i with
    | 0 => simp at a e; subst a; subst e; exact h
    | 1 => simp at a e; subst a; subst e; exact .t (.bool _)
    | i + 2 => simp at a

/-- No more than one of the keys is it, and each can be held against it. -/
def oneA (l : List (Nat × LK)) (k : AV) (es : List (AV × AV)) : Bool := es.all (fun p => (eqA l (cellsOf k) (cellsOf p.1)).isSome) && Nat.ble (es.countP fun p => eqA l (cellsOf k) (cellsOf p.1) == some true) 1
theorem findA_none {l : List (Nat × LK)} {k : AV} : ∀ {es : List (AV × AV)} {i : Nat}, findA l k es i = some none → ∀ p ∈ es, eqA l (cellsOf k) (cellsOf p.1) = some false
  | [], i, _, p, hp => by cases hp
  | (k', v) :: es, i, h, p, hp => by
    simp only [findA] at h
    split at h
    · cases h
    · rename_i hf
      rcases List.mem_cons.1 hp with rfl | hp
      · exact hf
      · exact findA_none h p hp
    · cases h
theorem findA_of_none {l : List (Nat × LK)} {k : AV} : ∀ {es : List (AV × AV)} {i : Nat}, (∀ p ∈ es, eqA l (cellsOf k) (cellsOf p.1) = some false) → findA l k es i = some none
  | [], i, _ => rfl
  | (k', v) :: es, i, h => by
    simp only [findA, h (k', v) List.mem_cons_self]
    exact findA_of_none fun p hp => h p (List.mem_cons_of_mem _ hp)
theorem findA_some {l : List (Nat × LK)} {k : AV} : ∀ {es : List (AV × AV)} {i j : Nat} {x : AV}, findA l k es i = some (some (j, x)) → i ≤ j ∧ ∃ kk, es[j - i]? = some (kk, x) ∧ eqA l (cellsOf k) (cellsOf kk) = some true
  | [], i, j, x, h => by simp [findA] at h
  | (k', v) :: es, i, j, x, h => by
    simp only [findA] at h
    split at h
    · rename_i ht
      cases h
      exact ⟨Nat.le_refl _, k', by simp, ht⟩
    · obtain ⟨h1, kk, h2, h3⟩ := findA_some h
      refine ⟨by omega, kk, ?_, h3⟩
      rw [show j - i = (j - (i + 1)) + 1 by omega]
      exact h2
    · cases h
theorem findA_of_some {l : List (Nat × LK)} {k : AV} : ∀ {es : List (AV × AV)} (i : Nat), (∀ p ∈ es, (eqA l (cellsOf k) (cellsOf p.1)).isSome = true) → (∃ p ∈ es, eqA l (cellsOf k) (cellsOf p.1) = some true) → ∃ j x, findA l k es i = some (some (j, x))
  | [], i, _, ⟨p, hp, _⟩ => by cases hp
  | (k', v) :: es, i, h, ⟨p, hp, hq⟩ => by
    simp only [findA]
    have h0 := h (k', v) List.mem_cons_self
    cases he : eqA l (cellsOf k) (cellsOf k') with
    | none => rw [he] at h0; cases h0
    | some b =>
      cases b with
      | true => exact ⟨i, v, rfl⟩
      | false =>
        simp only
        rcases List.mem_cons.1 hp with rfl | hp
        · rw [he] at hq; cases hq
        · exact findA_of_some (i + 1) (fun p hp => h p (List.mem_cons_of_mem _ hp)) ⟨p, hp, hq⟩
theorem count_one {α : Type} {p : α → Bool} {l : List α} (h : l.countP p ≤ 1) {a b : α} (ha : a ∈ l) (hb : b ∈ l) (pa : p a = true) (pb : p b = true) : a = b := by
  rw [List.countP_eq_length_filter] at h
  have ha' : a ∈ l.filter p := List.mem_filter.2 ⟨ha, pa⟩
  have hb' : b ∈ l.filter p := List.mem_filter.2 ⟨hb, pb⟩
  generalize l.filter p = m at *
  match m, h with
  | [], _ => cases ha'
  | [c], _ => rw [List.mem_singleton.1 ha', List.mem_singleton.1 hb']
  | _ :: _ :: _, h => simp at h
/-- In whatever order the entries are: the same is found. -/
theorem findA_perm {l : List (Nat × LK)} {k : AV} {es es' : List (AV × AV)} (hp : es'.Perm es) (hu : oneA l k es = true) :
    (findA l k es 0 = some none → findA l k es' 0 = some none) ∧
    ∀ j x, findA l k es 0 = some (some (j, x)) → ∃ j' kk, findA l k es' 0 = some (some (j', x)) ∧ es'[j']? = some (kk, x) ∧ es[j]? = some (kk, x) := by
  unfold oneA at hu
  rw [Bool.and_eq_true, List.all_eq_true] at hu
  obtain ⟨h1, h2⟩ := hu
  have h2 := Nat.le_of_ble_eq_true h2
  refine ⟨fun h => findA_of_none fun p hpm => findA_none h p (hp.mem_iff.1 hpm), fun j x h => ?_⟩
  obtain ⟨-, kk, e1, e2⟩ := findA_some h
  have hm := List.mem_of_getElem? e1
  obtain ⟨j', x', f1⟩ := findA_of_some (l := l) (k := k) (es := es') 0 (fun p hpm => h1 p (hp.mem_iff.1 hpm)) ⟨_, hp.mem_iff.2 hm, e2⟩
  obtain ⟨-, kk', g1, g2⟩ := findA_some f1
  have hm' := hp.mem_iff.1 (List.mem_of_getElem? g1)
  have := count_one h2 hm hm' (by simp [e2]) (by simp [g2])
  cases this
  exact ⟨j', kk, f1, by simpa using g1, by simpa using e1⟩
def lookA (agg : Bool) (l : List (Nat × LK)) (zero : AV) (ok : Bool) (m k : AV) (μ : List AObj) : Option AV :=
  match m with
  | .nilmap => if keyOK agg l k = true then some (okA ok zero false) else none
  | .mp id =>
    match μ[id]? with
    | some (.map es) =>
      if (keyOK agg l k = true ∧ es.all (fun p => keyOK agg l p.1) = true) ∧ oneA l k es = true then
        match findA l k es 0 with
        | some (some (_, x)) => some (okA ok x true)
        | some none => some (okA ok zero false)
        | none => none
      else none
    | _ => none
  | _ => none

theorem look_sound {K ρ S μ w m k vm vk r} {t kt e : TypeId} {d : TypeDesc} {i : TypeInfo} {z : Value} {za : AV} {ok : Bool} {l : List (Nat × LK)} (h : RepMu K ρ S μ w) (hm : VR μ ρ S w m vm) (hk : VR μ ρ S w k vk) (ht : K.P.underlying t = some (.map kt e))
    (hd : K.P.underlying kt = some d) (hl : leaves K.P 30 kt = some l) (hi : K.P.info? e = some i) (hz : i.zero = some z) (hza : VT S w za z) (hf : lookA (aggD d) l za ok m k μ = some r) : OpOK K ρ S μ w (Instr.lookup t vm vk ok) r μ := by
  have hzv : (zeroValue e).run K.P w = .ok z w := by simp [zeroValue, typeInfo, hi, hz]
  unfold lookA at hf
  split at hf
  · split at hf
    · rename_i hko
      cases hf
      obtain ⟨k1, k2, k3, k4, k5, k6⟩ := key_rel (P := K.P) hk hd hko
      have hvm : vm = .map none := by cases hm with | t h' => cases h'; rfl
      subst hvm
      refine .pure h (v := if ok then .tuple #[z, .bool false] else z) ?_ (okA_rel (.t hza))
      have hck := check_sound 30 kt l hl 10000 true w vk (by omega) k1 k5
      have hfk := findKey_V (P := K.P) (w := w) (es := []) (r := none) hd hl k1 (by simp) rfl
      simp [Instr.lookup, run_underlying ht, hck, hfk, hzv]
    · cases hf
  · rename_i id
    split at hf
    · rename_i es ho
      split at hf
      · rename_i hko
        obtain ⟨⟨hko, hall⟩, huq⟩ := hko
        obtain ⟨k1, k2, k3, k4, k5, k6⟩ := key_rel (P := K.P) hk hd hko
        cases hm with
        | t h' => cases h'
        | mpGone _ q1 => rw [ho] at q1; cases q1
        | mpI q1 _ => rw [ho] at q1; cases q1
        | @mp _ es0 B cap q1 q2 =>
          obtain ⟨B', cap', ents, clock, b1, b2, b3, b4, es', b7, b5, b6⟩ := h.ob id _ ho
          rw [q2] at b1; cases b1
          obtain ⟨p1, p2⟩ := findA_perm b7 huq
          have hent : EntRel μ ρ S w es' ents.toList := ⟨by simpa using b5.1, fun i k v hi => by obtain ⟨en, e1, e2⟩ := b6 i k v hi; exact ⟨en, by simpa using e1, e2⟩⟩
          have hkeys : ∀ p ∈ es', keyOK (aggD d) l p.1 = true := fun p hp => List.all_eq_true.1 hall p (b7.mem_iff.1 hp)
          have hshape : ∀ en ∈ ents.toList, shaped K.P kt en.key := by
            intro en hen
            obtain ⟨i, hi⟩ := List.mem_iff_getElem?.1 hen
            have hlt : i < es'.length := by rw [← hent.1]; exact (List.getElem?_eq_some_iff.1 hi).1
            obtain ⟨en', e1, e2, e3⟩ := hent.2 i es'[i].1 es'[i].2 (List.getElem?_eq_getElem hlt)
            rw [hi] at e1; cases e1
            exact (key_rel (P := K.P) (.t e2) hd (hkeys _ (List.getElem_mem _)) (μ := μ) (ρ := ρ)).1
          have hck := fun em => check_sound 30 kt l hl 10000 em w vk (by omega) k1 k5
          have hgo : (getObj B).run K.P w = .ok (.map ents clock) w := by simp [getObj, Sem.run, b4]
          have fin : ∀ r0, findA l k es' 0 = some r0 → ∃ r', (Instr.findKey kt vk ents.toList).run K.P w = .ok r' w ∧ (match r0, r' with
              | none, none => True
              | some (j, x), some (j', u) => VR μ ρ S w x u
              | _, _ => False) := by
            intro r0 hr0
            obtain ⟨r', r1, r2⟩ := findA_rel k3 es' ents.toList 0 r0 hent hkeys (fun k' v' a b => (key_rel (P := K.P) b hd a).2.2.1) hr0
            refine ⟨r', findKey_V hd hl k1 hshape r1, ?_⟩
            cases r0 <;> cases r' <;> simp only at r2 ⊢
            exact r2.2.1
          split at hf
          · rename_i j x hfa
            cases hf
            obtain ⟨j', kk, p3, p4, p5⟩ := p2 _ _ hfa
            obtain ⟨r', f1, f2⟩ := fin _ p3
            cases r' with
            | none => exact f2.elim
            | some q =>
              refine .pure h (v := if ok then .tuple #[q.2, .bool true] else q.2) ?_ (okA_rel f2)
              simp [Instr.lookup, run_underlying ht, hgo, hck, f1]
          · rename_i hfa
            cases hf
            obtain ⟨r', f1, f2⟩ := fin _ (p1 hfa)
            cases r' with
            | some q => exact f2.elim
            | none =>
              refine .pure h (v := if ok then .tuple #[z, .bool false] else z) ?_ (okA_rel (.t hza))
              simp [Instr.lookup, run_underlying ht, hgo, hck, f1, hzv]
          · cases hf
      · cases hf
    · cases hf
  · cases hf

def putMA (agg : Bool) (l : List (Nat × LK)) (m k x : AV) (μ : List AObj) : Option (List AObj) :=
  match m with
  | .mp id =>
    match μ[id]? with
    | some (.map es) =>
      if (keyOK agg l k = true ∧ es.all (fun p => keyOK agg l p.1) = true) ∧ oneA l k es = true then
        match findA l k es 0 with
        | some (some (i, _)) => some (μ.set id (.map (es.set i (k, x))))
        | some none => some (μ.set id (.map (es ++ [(k, x)])))
        | none => none
      else none
    | _ => none
  | _ => none

theorem putM_sound {K ρ S μ w m k x vm vk vx μ'} {t kt e : TypeId} {d : TypeDesc} {l : List (Nat × LK)} (h : RepMu K ρ S μ w) (hm : VR μ ρ S w m vm) (hk : VR μ ρ S w k vk) (hx : VR μ ρ S w x vx) (ht : K.P.underlying t = some (.map kt e))
    (hd : K.P.underlying kt = some d) (hl : leaves K.P 30 kt = some l) (hcv : coverB l = true) (hf : putMA (aggD d) l m k x μ = some μ') : ∃ w', (Instr.mapUpdate t vm vk vx).run K.P w = .ok () w' ∧ RepMu K ρ S μ' w' ∧ Stab μ ρ S w μ' ρ S w' := by
  unfold putMA at hf
  split at hf
  · rename_i id
    split at hf
    · rename_i es ho
      split at hf
      · rename_i hko
        obtain ⟨⟨hko, hall⟩, huq⟩ := hko
        obtain ⟨k1, k2, k3, k4, k5, k6⟩ := key_rel (P := K.P) hk hd hko
        cases hm with
        | t h' => cases h'
        | mpGone _ q1 => rw [ho] at q1; cases q1
        | mpI q1 _ => rw [ho] at q1; cases q1
        | @mp _ es0 B cap q1 q2 =>
          obtain ⟨B', cap', ents, clock, b1, b2, b3, b4, es', b7, b5, b6⟩ := h.ob id _ ho
          rw [q2] at b1; cases b1
          obtain ⟨p1, p2⟩ := findA_perm b7 huq
          have hlt := (List.getElem?_eq_some_iff.1 ho).1
          have hent : EntRel μ ρ S w es' ents.toList := ⟨by simpa using b5.1, fun i k v hi => by obtain ⟨en, e1, e2⟩ := b6 i k v hi; exact ⟨en, by simpa using e1, e2⟩⟩
          have hkeys : ∀ p ∈ es', keyOK (aggD d) l p.1 = true := fun p hp => List.all_eq_true.1 hall p (b7.mem_iff.1 hp)
          have hshape : ∀ en ∈ ents.toList, shaped K.P kt en.key := by
            intro en hen
            obtain ⟨i, hi⟩ := List.mem_iff_getElem?.1 hen
            have hlt : i < es'.length := by rw [← hent.1]; exact (List.getElem?_eq_some_iff.1 hi).1
            obtain ⟨en', e1, e2, e3⟩ := hent.2 i es'[i].1 es'[i].2 (List.getElem?_eq_getElem hlt)
            rw [hi] at e1; cases e1
            exact (key_rel (P := K.P) (.t e2) hd (hkeys _ (List.getElem_mem _)) (μ := μ) (ρ := ρ)).1
          have hck := check_sound 30 kt l hl 10000 false w vk (by omega) k1 k5
          have hgo : (getObj B).run K.P w = .ok (.map ents clock) w := by simp [getObj, Sem.run, b4]
          have hset : ∀ (es2 es' : List (AV × AV)) (ents' : Array MapEntry) (clock' : Nat), es'.Perm es2 → (ents'.size = es'.length ∧ BornOK ents' clock') → (∀ (i : Nat) k v, es'[i]? = some (k, v) → ∃ en : MapEntry, ents'[i]? = some en ∧ VT S w k en.key ∧ VR μ ρ S w v en.val) →
              RepMu K ρ S (μ.set id (.map es2)) (w.putObj B (.map ents' clock')) ∧ Stab μ ρ S w (μ.set id (.map es2)) ρ S (w.putObj B (.map ents' clock')) := by
            intro es2 es' ents' clock' hpm hsz hen
            refine h.setO ho (by simp) q2 _ rfl (fun x hx => by rw [b4] at hx; cases hx) fun k hB => ⟨B, cap, ents', clock', q2, b2, b3, hB, es', hpm, hsz, fun i k' v hi => ?_⟩
            obtain ⟨en, e1, e2, e3⟩ := hen i k' v hi
            exact ⟨en, e1, e2.mono k.sub k.blk, e3.stab k⟩
          have hwo : ∀ o, (setObj B o).run K.P w = .ok () (w.putObj B o) := fun o => by simp [setObj, Sem.run, b4, World.putObj]
          split at hf
          · rename_i j x0 hfa
            cases hf
            obtain ⟨j', kq, p3, p4, p5⟩ := p2 _ _ hfa
            obtain ⟨r', r1, r2⟩ := findA_rel k3 es' ents.toList 0 _ hent hkeys (fun k' v' a b => (key_rel (P := K.P) b hd a).2.2.1) p3
            cases r' with
            | none => exact r2.elim
            | some q =>
              obtain ⟨e1, e2, -, kk, e3, e4⟩ := r2
              obtain ⟨q1', q2'⟩ := q
              simp only at e1; subst e1
              have hfk := findKey_V (w := w) hd hl k1 hshape r1
              obtain ⟨en, n1, n2, n3⟩ := hent.2 _ _ _ e3
              simp only [Nat.sub_zero] at n1 e3
              have hk2 := key_rel (P := K.P) (μ := μ) (ρ := ρ) (.t n2) hd (hkeys _ (List.mem_of_getElem? e3))
              have hcells : vk.cells.toList = en.key.cells.toList := by
                have := eqV_cells l 0 vk.cells.toList en.key.cells.toList (by simpa using k4) (by simpa using hk2.2.2.2.1) (cover_get hcv) (eqA_rel l k3 hk2.2.2.1 e4)
                simpa using this
              have hkey : vk = en.key := by
                have s1 := k1; have s2 := hk2.1
                simp only [shaped, hd] at s1 s2
                cases hag : aggD d with
                | true =>
                  simp only [hag, if_true] at s1 s2
                  obtain ⟨xs, rfl⟩ := s1
                  obtain ⟨ys, hy⟩ := s2
                  rw [hy] at hcells ⊢
                  simp only [Value.cells] at hcells
                  rw [Array.ext' hcells]
                | false =>
                  simp only [hag, Bool.false_eq_true, if_false] at s1 s2
                  rw [cells_leaf s1, cells_leaf s2] at hcells
                  simpa using hcells
              have hn1 : ents[q1']? = some en := by simpa using n1
              have hstay : (Instr.keyThatStays (((ents[q1']?).map (·.key)).getD vk) vk).run K.P w = .ok vk w := by
                rw [hn1]
                simp only [Option.map_some, Option.getD_some, ← hkey, Instr.keyThatStays, k6, if_true]
                rfl
              obtain ⟨a1, a2⟩ := hset (es.set j (k, x)) (es'.set q1' (k, x)) (ents.modify q1' fun e => { e with key := vk, val := vx }) clock (perm_set b7 p4 p5) ⟨by simp [b5.1], b5.2.modify _ _ fun _ => rfl⟩ (fun i k' v hi => by
                by_cases hij : i = q1'
                · subst hij
                  have hlt' : i < es'.length := (List.getElem?_eq_some_iff.1 e3).1
                  rw [List.getElem?_set_self hlt'] at hi
                  cases hi
                  exact ⟨{ en with key := vk, val := vx }, by rw [Array.getElem?_modify, if_pos rfl, hn1]; rfl, k2, hx⟩
                · rw [List.getElem?_set_ne (Ne.symm hij)] at hi
                  obtain ⟨en', m1, m2⟩ := b6 i k' v hi
                  exact ⟨en', by rw [Array.getElem?_modify, if_neg (Ne.symm hij)]; exact m1, m2⟩)
              refine ⟨_, ?_, a1, a2⟩
              simp only [Instr.mapUpdate, Sem.run_bind, run_underlying ht, Result.andThen_ok, hgo, hck, hfk, hstay, hwo]
          · rename_i hfa
            cases hf
            obtain ⟨r', r1, r2⟩ := findA_rel k3 es' ents.toList 0 _ hent hkeys (fun k' v' a b => (key_rel (P := K.P) b hd a).2.2.1) (p1 hfa)
            cases r' with
            | some q => exact r2.elim
            | none =>
              have hfk := findKey_V (w := w) hd hl k1 hshape r1
              obtain ⟨a1, a2⟩ := hset (es ++ [(k, x)]) (es' ++ [(k, x)]) (ents.push { key := vk, val := vx, born := clock }) (clock + 1) (b7.append_right _) ⟨by simp [b5.1], b5.2.push _ rfl⟩ (fun i k' v hi => by
                by_cases hlt' : i < es'.length
                · rw [List.getElem?_append_left hlt'] at hi
                  obtain ⟨en', m1, m2⟩ := b6 i k' v hi
                  exact ⟨en', by rw [Array.getElem?_push, if_neg (by have := b5.1; omega)]; exact m1, m2⟩
                · have hii := (List.getElem?_eq_some_iff.1 hi).1
                  simp at hii
                  have : i = es'.length := by omega
                  subst this
                  simp at hi
                  obtain ⟨rfl, rfl⟩ := hi
                  exact ⟨{ key := vk, val := vx, born := clock }, by rw [Array.getElem?_push, if_pos b5.1.symm], k2, hx⟩)
              refine ⟨_, ?_, a1, a2⟩
              simp only [Instr.mapUpdate, Sem.run_bind, run_underlying ht, Result.andThen_ok, hgo, hck, hfk, hwo]
          · cases hf
      · cases hf
    · cases hf
  · cases hf

/-! ### interfaces -/
def asIA (t : TypeId) (ok : Bool) (zero : AV) (x : AV) : Option AV :=
  match x with
  | .iface t' v => if t' = t then some (okA ok v true) else if ok = true then some (okA ok zero false) else none
  | .nilif => if ok = true then some (okA ok zero false) else none
  | _ => none

theorem asI_sound {K ρ S μ w x v r} {t xt : TypeId} {d : TypeDesc} {i : TypeInfo} {z : Value} {za : AV} {ok : Bool} (h : RepMu K ρ S μ w) (hv : VR μ ρ S w x v) (ht : K.P.underlying t = some d) (hni : ∀ m, d ≠ .interface m) (hi : K.P.info? t = some i) (hz : i.zero = some z) (hza : VT S w za z)
    (hf : asIA t ok za x = some r) : OpOK K ρ S μ w (Instr.typeAssert v xt t ok) r μ := by
  have hzv : (zeroValue t).run K.P w = .ok z w := by simp [zeroValue, typeInfo, hi, hz]
  unfold asIA at hf
  split at hf
  · rename_i t' y
    have hv' : ∃ u, v = .iface t' u ∧ VR μ ρ S w y u := by
      cases hv with
      | t h' => cases h' with | iface _ _ u hr => exact ⟨u, rfl, .t hr⟩
      | iface _ _ u hr => exact ⟨u, rfl, hr⟩
    obtain ⟨u, rfl, hu⟩ := hv'
    split at hf
    · rename_i htt
      subst htt
      cases hf
      refine .pure h (v := if ok then .tuple #[u, .bool true] else u) ?_ (okA_rel hu)
      cases d <;> first | (exact absurd rfl (hni _)) | (simp [Instr.typeAssert, run_underlying ht])
    · rename_i htt
      split at hf
      · rename_i hok
        subst hok
        cases hf
        refine .pure h (v := .tuple #[z, .bool false]) ?_ (okA_rel (ok := true) (.t hza))
        cases d <;> first | (exact absurd rfl (hni _)) | (simp [Instr.typeAssert, run_underlying ht, htt, hzv])
      · cases hf
  · split at hf
    · rename_i hok
      subst hok
      cases hf
      have hv0 : v = .nilIface := by cases hv with | t h' => cases h'; rfl
      subst hv0
      refine .pure h (v := .tuple #[z, .bool false]) ?_ (okA_rel (ok := true) (.t hza))
      cases d <;> first | (exact absurd rfl (hni _)) | (simp [Instr.typeAssert, run_underlying ht, hzv])
    · cases hf
  · cases hf

theorem mkI_sound {K ρ S μ w x v} {t : TypeId} {d : TypeDesc} (h : RepMu K ρ S μ w) (hv : VR μ ρ S w x v) (ht : K.P.underlying t = some d) (hni : ∀ m, d ≠ .interface m) : OpOK K ρ S μ w (Instr.makeInterface t v) (.iface t x) μ := by
  refine .pure h (v := .iface t v) ?_ (.iface _ _ _ hv)
  cases d <;> first | (exact absurd rfl (hni _)) | (simp [Instr.makeInterface, run_underlying ht])

/-! ### bytes as a string -/
def bytesA : List (List AV) → Option (List UInt8)
  | [] => some []
  | [.int .u8 n] :: r => (bytesA r).map (UInt8.ofNat n.toNat :: ·)
  | _ => none

def cBTA (x : AV) (μ : List AObj) : Option AV :=
  match srcA 1 x μ with
  | some ys => (bytesA ys).map fun bs => .str ⟨bs.toArray⟩
  | none => none

theorem bytes_loop {P : Program} {w : World} : ∀ (news : List Value) (bs : List UInt8) (s : ByteArray), news.length = bs.length → (∀ (i : Nat) b, bs[i]? = some b → ∃ n : Int, news[i]? = some (.int .u8 n) ∧ UInt8.ofNat n.toNat = b) →
    (forIn news s (fun c (s : ByteArray) => (match c with | .int .u8 n => pure (ForInStep.yield (s.push (UInt8.ofNat n.toNat))) | _ => (do stuck "bytesToString: byte expected"; pure (ForInStep.yield s)) : Sem (ForInStep ByteArray)))).run P w = .ok ⟨s.data ++ bs.toArray⟩ w
  | [], [], s, _, _ => by simp
  | [], b :: bs, s, h, _ => by simp at h
  | v :: news, [], s, h, _ => by simp at h
  | v :: news, b :: bs, s, h, hb => by
    obtain ⟨n, h1, h2⟩ := hb 0 b rfl
    simp at h1; subst h1
    have ih := bytes_loop (P := P) (w := w) news bs (s.push (UInt8.ofNat n.toNat)) (by simpa using h) (fun i b hi => hb (i + 1) b (by simpa using hi))
    simp only [List.forIn_cons, Sem.run_bind, Sem.run_pure, Result.andThen_ok]
    rw [ih, h2]
    congr 2
    simp [ByteArray.push]

theorem bytesA_get : ∀ (ys : List (List AV)) (bs : List UInt8), bytesA ys = some bs → bs.length = ys.length ∧ ∀ (i : Nat) b, bs[i]? = some b → ∃ n : Int, ys[i]? = some [.int .u8 n] ∧ UInt8.ofNat n.toNat = b
  | [], bs, h => by simp [bytesA] at h; subst h; simp
  | y :: ys, bs, h => by
    unfold bytesA at h
    split at h
    · rename_i he; cases he
    · rename_i n r he
      cases he
      simp only [Option.map_eq_some_iff] at h
      obtain ⟨bs', h1, rfl⟩ := h
      obtain ⟨k1, k2⟩ := bytesA_get _ bs' h1
      refine ⟨by simp [k1], fun i b hi => ?_⟩
      match i with
      | 0 => simp at hi; exact ⟨n, rfl, hi⟩
      | i + 1 => exact k2 i b (by simpa using hi)
    · cases h

/-- A text's bytes, in a row of their own. -/
def cTBA (e : Nat) (x : AV) (μ : List AObj) : Option (AV × List AObj) :=
  match x with
  | .str s => if s.size ≤ maxLen then some (.hsl μ.length 0 1 s.size, μ ++ [.row e 0 1 (s.data.toList.map fun b => [.int .u8 b.toNat])]) else none
  | _ => none
theorem bytesWorld_alloc (w : World) (e : TypeId) (s : ByteArray) : Lib.bytesWorld w e s = w.drew.alloc (.cells (Lib.bytesCells w e s) e ((Lib.bytesCells w e s).size, (Lib.bytesCells w e s).size + 1)) := by
  unfold Lib.bytesWorld World.freeze
  rw [if_neg (by omega)]
  have hm : ∀ (h : Array Obj) (o o' : Obj) (f : Obj → Obj), f o = o' → (h.push o).modify h.size f = h.push o' := fun h o o' f hf => by
    apply Array.ext
    · simp
    · intro i h1 h2
      rw [Array.getElem_modify]
      by_cases hi : h.size = i
      · subst hi; simp [hf]
      · have hlt : i < h.size := by simp at h2; omega
        rw [if_neg hi, Array.getElem_push_lt hlt, Array.getElem_push_lt hlt]
  have e1 := hm w.heap (.cells (Lib.bytesCells w e s) e) (.cells (Lib.bytesCells w e s) e ((Lib.bytesCells w e s).size, (Lib.bytesCells w e s).size + 1)) (fun
      | .cells c elem (lo, hi) => .cells c elem (if lo == hi then ((Lib.bytesCells w e s).size, (Lib.bytesCells w e s).size + 1) else (min lo (Lib.bytesCells w e s).size, max hi ((Lib.bytesCells w e s).size + 1)))
      | o => o) (by simp)
  exact congrArg (fun h => ({ w.drew with heap := h } : World)) e1
theorem cTB_sound {K ρ S μ w x v r μ'} {s t e : TypeId} (h : RepMu K ρ S μ w) (hv : VR μ ρ S w x v) (hs : K.P.underlying s = some .string) (ht : K.P.underlying t = some (.slice e)) (he : K.P.underlying e = some (.int .u8)) (hf : cTBA e x μ = some (r, μ')) :
    OpOK K ρ S μ w (convert s t v) r μ' := by
  unfold cTBA at hf
  split at hf
  · rename_i b
    split at hf
    · rename_i hb
      cases hf
      cases hv with
      | t hv =>
      cases hv
      obtain ⟨hd1, hd2⟩ := h.same (w' := w.drew) (Below.drew (Below.refl _ _)) rfl
      have hge := grownCap_ge w b.size 0 e
      have hcm := grownCap_le_maxLen w b.size 0 e hb
      have hsz : (Lib.bytesCells w e b).size = grownCap w b.size 0 e := by
        have : b.data.size = b.size := rfl
        simp only [Lib.bytesCells, Array.size_append, Array.size_map, Array.size_replicate]
        omega
      have hget : ∀ (i : Nat) (hi : i < b.data.toList.length), (Lib.bytesCells w e b)[i]? = some (.int .u8 b.data.toList[i].toNat) := fun i hi => by
        have h1 : i < b.data.size := by simpa using hi
        simp only [Lib.bytesCells]
        rw [Array.getElem?_append_left (by simpa using h1), Array.getElem?_map, Array.getElem?_eq_getElem h1]
        simp
      obtain ⟨a1, a2⟩ := hd1.allocO (.row e 0 1 (b.data.toList.map fun y => [AV.int .u8 y.toNat])) (.cells (Lib.bytesCells w e b) e ((Lib.bytesCells w e b).size, (Lib.bytesCells w e b).size + 1)) (grownCap w b.size 0 e) fun ρ' hr k =>
        Or.inr ⟨w.drew.heap.size, grownCap w b.size 0 e, Lib.bytesCells w e b, hr, hd1.size, fun hs => Nat.lt_irrefl _ (hd1.st _ hs), ⟨_, heap_alloc_new w.drew _, .inr (Nat.le_refl _)⟩, by rw [hsz, Nat.mul_one], by
          have : b.data.toList.length = b.size := by rw [Array.length_toList]; rfl
          simp only [List.length_map]; omega, hcm, fun i cs hi => by
          rw [List.getElem?_map] at hi
          obtain ⟨y, hy, rfl⟩ := Option.map_eq_some_iff.1 hi
          obtain ⟨hlt, rfl⟩ := List.getElem?_eq_some_iff.1 hy
          refine ⟨rfl, fun j c hj => ?_⟩
          match j, hj with
          | 0, hj =>
            cases hj
            exact ⟨_, by rw [Nat.mul_one, Nat.add_zero]; exact hget i hlt, .t (.int _ _), rfl⟩
          | j + 1, hj => simp at hj⟩
      refine ⟨_, _, _, S, (Lib.run_convert_string_bytes w s t e b hs ht he).trans (by rw [bytesWorld_alloc]), ?_, a1, hd2.trans a2⟩
      exact .hsl (e := e) (es := b.data.toList.map fun y => [AV.int .u8 y.toNat]) (by simp) (by
        have : b.data.toList.length = b.size := by rw [Array.length_toList]; rfl
        simp only [List.length_map]; omega) (by simp)
    · cases hf
  · cases hf
mutual
def treeA : AV → Bool
  | .agg cs => treeL cs
  | .tup cs => treeL cs
  | .fn _ fi ca => treeL fi && treeL ca
  | .iface _ x => treeA x
  | .hsl _ _ _ _ => false
  | .ptr _ _ _ _ _ => false
  | .mp _ => false
  | .yl _ => false
  | .dead => false
  | .int _ _ => true
  | .bool _ => true
  | .str _ => true
  | .nilp => true
  | .nilfn => true
  | .nilif => true
  | .nilmap => true
  | .nilsl => true
  | .sl _ _ => true
  | .tptr _ _ => true
def treeL : List AV → Bool
  | [] => true
  | x :: r => treeA x && treeL r
end

theorem treeL_get : ∀ {l : List AV} {i : Nat} {x : AV}, treeL l = true → l[i]? = some x → treeA x = true
  | [], i, x, _, h => by simp at h
  | y :: l, 0, x, h, e => by
    simp only [treeL, Bool.and_eq_true] at h
    simp at e; subst e; exact h.1
  | y :: l, i + 1, x, h, e => by
    simp only [treeL, Bool.and_eq_true] at h
    exact treeL_get h.2 (by simpa using e)

theorem VR.tree {μ ρ S w x v} (h : VR μ ρ S w x v) (ht : treeA x = true) : VT S w x v := by
  induction h with
  | t h => exact h
  | agg cs vs hl _ ih => simp only [treeA] at ht; exact .agg cs vs hl fun i c v a b => ih i c v a b (treeL_get ht a)
  | tup cs vs hl _ ih => simp only [treeA] at ht; exact .tup cs vs hl fun i c v a b => ih i c v a b (treeL_get ht a)
  | fn f fi ca vf vc h1 h2 _ _ ih1 ih2 =>
    simp only [treeA, Bool.and_eq_true] at ht
    exact .fn f fi ca vf vc h1 h2 (fun i c v a b => ih1 i c v a b (treeL_get ht.1 a)) (fun i c v a b => ih2 i c v a b (treeL_get ht.2 a))
  | iface t x v _ ih => simp only [treeA] at ht; exact .iface t x v (ih ht)
  | hsl => simp [treeA] at ht
  | hsl0 => simp [treeA] at ht
  | hslOld => simp [treeA] at ht
  | hslGone => simp [treeA] at ht
  | ptr => simp [treeA] at ht
  | ptrOld => simp [treeA] at ht
  | ptrGone => simp [treeA] at ht
  | mp => simp [treeA] at ht
  | mpGone => simp [treeA] at ht
  | mpI => simp [treeA] at ht
  | yl => simp [treeA] at ht
  | ylGone => simp [treeA] at ht
  | dead => simp [treeA] at ht

/-- A text that is gone through, character by character. -/
def mkItA (x : AV) (μ : List AObj) : Option (AV × List AObj) := match x with | .str s => some (.mp μ.length, μ ++ [.iter s 0 none]) | _ => none
def mkItMA (x : AV) (μ : List AObj) : Option (AV × List AObj) := match x with
  | .mp id => match μ[id]? with
    | some (.map es) => if es.all (fun p => treeA p.2) = true then some (.mp (μ.set id .gone).length, μ.set id .gone ++ [.iter default 0 (some (none, es))]) else none
    | _ => none
  | _ => none
/-- A map that nothing turns any longer. -/
theorem RepMu.dropMap {K ρ S μ w} (h : RepMu K ρ S μ w) {id B cap : Nat} {es : List (AV × AV)} (ho : μ[id]? = some (.map es)) (hr : ρ id = some (B, cap)) :
    RepMu K ρ (fun b => S b ∨ b = B) (μ.set id .gone) w ∧ Stab μ ρ S w (μ.set id .gone) ρ (fun b => S b ∨ b = B) w := by
  have hlt := (List.getElem?_eq_some_iff.1 ho).1
  obtain ⟨b1, b2, b3⟩ := h.blk ho (by simp) hr
  obtain ⟨B', cap', ents, clock, h1, h2, h3, h4, _⟩ := h.ob id _ ho
  rw [hr] at h1; cases h1
  have k : Stab μ ρ S w (μ.set id .gone) ρ (fun b => S b ∨ b = B) w := by
    refine ⟨fun _ h => .inl h, fun b hb => rfl, fun i o hi => ?_, Nat.le_refl _, fun b hb hd => ⟨hd, fun q => q.elim hb fun e => by rw [e, h4] at hd; cases hd⟩, fun b hlt h1 h2 => ⟨rfl, fun q => q.elim h1 fun e => h2 id _ cap ho (by simp) (by rw [hr, e]), h2.set (.inl rfl)⟩⟩
    by_cases hid : i = id
    · subst hid
      rw [ho] at hi; cases hi
      exact ⟨_, List.getElem?_set_self hlt, trivial⟩
    · exact ⟨o, by rw [List.getElem?_set_ne (Ne.symm hid)]; exact hi, ObjTo.refl o _⟩
  have key : ∀ (j : Nat) (o : AObj), (μ.set id .gone)[j]? = some o → o ≠ .gone → j ≠ id ∧ μ[j]? = some o := by
    intro j o hj hn
    by_cases hid : j = id
    · subst hid; rw [List.getElem?_set_self hlt] at hj; cases hj; exact absurd rfl hn
    · rw [List.getElem?_set_ne (Ne.symm hid)] at hj; exact ⟨hid, hj⟩
  refine ⟨h.next h.below (fun b hb => hb.elim (h.st b) fun e => e ▸ b3) (fun b hb hl => hb.elim (fun q => h.own b q hl) fun e => by subst e; omega) k (fun i o hi => ?_) ?_, k⟩
  · by_cases hg : o = .gone
    · subst hg; exact .inr trivial
    · obtain ⟨hid, hi'⟩ := key i o hi hg
      refine .inl ⟨hi', rfl, fun B' c' hB hne => ?_⟩
      obtain ⟨_, c2, c3⟩ := h.blk hi' hne hB
      refine ⟨fun q => q.elim c2 fun e => hid ?_, rfl⟩
      subst e
      exact h.inj i id o _ B' c' cap hi' ho hne (by simp) hB hr
  · intro i i' o o' B q1' q2' hi hi' hne hne' hB hB'
    exact h.inj i i' o o' B q1' q2' (key i o hi hne).2 (key i' o' hi' hne').2 hne hne' hB hB'
theorem mkItM_sound {K ρ S μ w x v r μ'} {t k e : TypeId} (h : RepMu K ρ S μ w) (hv : VR μ ρ S w x v) (ht : K.P.underlying t = some (.map k e)) (hf : mkItMA x μ = some (r, μ')) : OpOK K ρ S μ w (Instr.range t v) r μ' := by
  unfold mkItMA at hf
  split at hf
  · rename_i id
    split at hf
    · rename_i es ho
      split at hf
      · rename_i htr
        cases hf
        have hb : ∃ B cap, v = .map (some B) ∧ ρ id = some (B, cap) := by
          cases hv with
          | t h' => cases h'
          | mp h1 h2 => exact ⟨_, _, rfl, h2⟩
          | mpGone _ h1 => rw [ho] at h1; cases h1
          | mpI h1 _ => rw [ho] at h1; cases h1
        obtain ⟨B, cap, rfl, hB⟩ := hb
        obtain ⟨B', cap', ents, clock, b1, b2, b3, b4, es', b7, b5, b6⟩ := h.ob id _ ho
        rw [hB] at b1; cases b1
        obtain ⟨m1, m2⟩ := h.dropMap ho hB
        obtain ⟨a1, a2⟩ := m1.allocO (.iter default 0 (some (none, es))) (.mapIter (some B) clock #[] clock) 0 fun ρ' hr k => ⟨w.heap.size, 0, hr, h.size, fun hs => Nat.lt_irrefl _ (m1.st _ hs), B, ents, clock, #[], .inr rfl, (k.blk B (.inr rfl)).trans b4, b5.2, heap_alloc_new w _, ⟨List.range es'.length, es', b7, by simp, List.nodup_range, fun i en hi => by
          have := (Array.getElem?_eq_some_iff.1 hi).1
          rw [b5.1] at this
          simp [this], fun t i k' v' ht' hl => by
          have hlt : t < es'.length := (List.getElem?_eq_some_iff.1 hl).1
          simp [hlt] at ht'
          subst ht'
          obtain ⟨en, e1, e2, e3⟩ := b6 t k' v' hl
          refine ⟨en, e1, e2.mono (fun b hb => k.sub b (.inl hb)) (fun b hb => k.blk b (.inl hb)), ?_⟩
          have := List.all_eq_true.1 htr (k', v') (b7.mem_iff.1 (List.mem_of_getElem? hl))
          exact ((e3.stab m2).stab k).tree this⟩, fun k v q => by cases q⟩
        refine ⟨.pointer (some ⟨w.heap.size, 0, none⟩), _, _, _, run_range_map w t k e B ents clock ht b4, .mpI (s := default) (pos := 0) (ml := some (none, es)) (cap := 0) (by simp) (by simp), a1, m2.trans a2⟩
      · cases hf
    · cases hf
  · cases hf
def nxtA (x : AV) (μ : List AObj) : Option (AV × List AObj) := match x with
  | .mp id => match μ[id]? with
    | some (.iter s pos none) => if pos < s.size then some (.tup [.bool true, .int .i64 pos, .int .i32 (Utf8.decode s pos).1], μ.set id (.iter s (pos + (Utf8.decode s pos).2) none)) else some (.tup [.bool false], μ)
    | _ => none
  | _ => none
theorem mkIt_sound {K ρ S μ w x v r μ'} {t : TypeId} (h : RepMu K ρ S μ w) (hv : VR μ ρ S w x v) (ht : K.P.underlying t = some .string) (hf : mkItA x μ = some (r, μ')) : OpOK K ρ S μ w (Instr.range t v) r μ' := by
  unfold mkItA at hf
  split at hf
  · rename_i s
    cases hf
    cases hv with
    | t hv =>
    cases hv
    obtain ⟨a1, a2⟩ := h.allocO (.iter s 0 none) (.stringIter s 0) 0 fun ρ' hr k => ⟨w.heap.size, 0, hr, h.size, fun hs => Nat.lt_irrefl _ (h.st _ hs), heap_alloc_new w _⟩
    exact ⟨.pointer (some ⟨w.heap.size, 0, none⟩), _, _, S, by simp [Instr.range, run_underlying ht, run_newObj_alloc], .mpI (s := s) (pos := 0) (ml := none) (cap := 0) (by simp) (by simp), a1, a2⟩
  · cases hf
theorem nxt_sound {K ρ S μ w x v r μ'} {t : TypeId} (h : RepMu K ρ S μ w) (hv : VR μ ρ S w x v) (hf : nxtA x μ = some (r, μ')) : OpOK K ρ S μ w (Instr.next v true t) r μ' := by
  unfold nxtA at hf
  split at hf
  · rename_i id
    split at hf
    · rename_i s pos ho
      have hb : ∃ B cap, v = .pointer (some ⟨B, 0, none⟩) ∧ ρ id = some (B, cap) := by
        cases hv with
        | t h' => cases h'
        | mp h1 _ => rw [ho] at h1; cases h1
        | mpGone _ h1 => rw [ho] at h1; cases h1
        | mpI h1 h2 => exact ⟨_, _, rfl, h2⟩
      obtain ⟨B, cap, rfl, hB⟩ := hb
      obtain ⟨B', cap', b1, b2, b3, b4⟩ := h.ob id _ ho
      rw [hB] at b1; cases b1
      have b4 : w.heap[B]? = some (.stringIter s pos) := b4
      have hgo : (getObj B).run K.P w = .ok (.stringIter s pos) w := by simp [getObj, Sem.run, b4]
      have hwo : ∀ o, (setObj B o).run K.P w = .ok () (w.putObj B o) := fun o => by simp [setObj, Sem.run, b4, World.putObj]
      split at hf
      · rename_i hp
        cases hf
        obtain ⟨a1, a2⟩ := h.setO (o' := .iter s (pos + (Utf8.decode s pos).2) none) ho (by simp) hB (.stringIter s (pos + (Utf8.decode s pos).2)) rfl (fun x hx => by rw [b4] at hx; cases hx) fun k hB' => ⟨B, cap, hB, b2, b3, hB'⟩
        refine ⟨.tuple #[.bool true, goInt pos, .int .i32 (Utf8.decode s pos).1], _, ρ, S, ?_, .t ?_, a1, a2⟩
        · simp [Instr.next, hgo, hp, hwo]
        · refine .tup _ _ rfl fun i c u a e => ?_
          match i with
          | 0 => simp at a e; subst a; subst e; exact .bool _
          | 1 => simp at a e; subst a; subst e; exact .int _ _
          | 2 => simp at a e; subst a; subst e; exact .int _ _
          | i + 3 => simp at a
      · rename_i hp
        cases hf
        refine ⟨.tuple #[.bool false], w, ρ, S, ?_, .t ?_, h, Stab.refl _ _ _ _⟩
        · simp [Instr.next, hgo, hp]
        · refine .tup _ _ rfl fun i c u a e => ?_
          match i with
          | 0 => simp at a e; subst a; subst e; exact .bool _
          | i + 1 => simp at a
    · cases hf
  · cases hf
theorem cBT_sound {K ρ S μ w x v r} {s t e : TypeId} (h : RepMu K ρ S μ w) (hv : VR μ ρ S w x v) (hs : K.P.underlying s = some (.slice e)) (he : K.P.underlying e = some (.int .u8)) (ht : K.P.underlying t = some .string) (hf : cBTA x μ = some r) :
    OpOK K ρ S μ w (convert s t v) r μ := by
  unfold cBTA at hf
  split at hf
  · rename_i ys hys
    simp only [Option.map_eq_some_iff] at hf
    obtain ⟨bs, hb, rfl⟩ := hf
    obtain ⟨a, cap, news, rfl, n1, n2, n3, n4⟩ := src_vals h hv hys (by omega)
    obtain ⟨k1, k2⟩ := bytesA_get ys bs hb
    refine .pure h (v := .string ⟨bs.toArray⟩) ?_ (.t (.str _))
    have hconv : (convert s t (.slice a ys.length cap)).run K.P w = (Conv.bytesToString (.slice a ys.length cap)).run K.P w := by
      cases a <;> simp [convert, run_underlying hs, run_underlying ht, run_underlying he]
    rw [hconv]
    cases a with
    | none =>
      have h0 : ys.length = 0 := by
        rcases Nat.eq_zero_or_pos ys.length with h0 | h0
        · exact h0
        · obtain ⟨ad, had, _⟩ := n2 h0; cases had
      have : bs = [] := List.eq_nil_of_length_eq_zero (by rw [k1, h0])
      subst this
      simp [Conv.bytesToString]
      rfl
    | some ad =>
      have hcell : ∀ (j : Nat) u, news[j]? = some u → w.cell? (ad.add j) = some u := by
        intro j u hj
        have hpos : 0 < ys.length := by
          have := (List.getElem?_eq_some_iff.1 hj).1
          omega
        obtain ⟨ad', had, hc⟩ := n2 hpos
        cases had
        exact hc j u hj
      have hload := run_loadCells_list (P := K.P) w ad news hcell
      rw [n1, Nat.mul_one] at hload
      have hloop := bytes_loop (P := K.P) (w := w) news bs .empty (by rw [n1, k1]; simp) (fun i b hi => by
        obtain ⟨n, e1, e2⟩ := k2 i b hi
        obtain ⟨-, hc⟩ := n4 i _ e1
        obtain ⟨u, u1, u2⟩ := hc 0 _ rfl
        have := int_inv u2
        subst this
        exact ⟨n, by simpa using u1, e2⟩)
      simp only [Conv.bytesToString, Sem.run_bind, hload, Result.andThen_ok, List.forIn_toArray]
      refine Eq.trans (congrArg (fun r => Result.andThen r _) hloop) ?_
      simp
  · cases hf

end Go.Av
set_option linter.unusedVariables false
set_option linter.unusedSimpArgs false
namespace Go.Av
open Go.RowKit

theorem constC_rel {S w v x} (h : constC v = some x) : VT S w x v ∧ v.oneCell' = true := by
  unfold constC at h
  split at h <;> cases h <;> exact ⟨by constructor, rfl⟩

theorem constL_rel {S w} : ∀ (vs : List Value) (xs : List AV), constL vs = some xs → xs.length = vs.length ∧ ∀ (i : Nat) x v, xs[i]? = some x → vs[i]? = some v → VT S w x v ∧ v.oneCell' = true
  | [], xs, h => by simp [constL] at h; subst h; simp
  | v :: vs, xs, h => by
    simp only [constL] at h
    split at h
    · rename_i x xs' h1 h2
      cases h
      obtain ⟨k1, k2⟩ := constL_rel (S := S) (w := w) vs xs' h2
      refine ⟨by simp [k1], fun i y u hy hu => ?_⟩
      match i with
      | 0 => simp at hy hu; subst hy; subst hu; exact constC_rel h1
      | i + 1 => exact k2 i y u hy hu
    · cases h

theorem constA_rel {S w v x} (h : constA v = some x) : VT S w x v := by
  unfold constA at h
  split at h
  · rename_i cs
    simp only [Option.map_eq_some_iff] at h
    obtain ⟨xs, h1, rfl⟩ := h
    obtain ⟨k1, k2⟩ := constL_rel (S := S) (w := w) _ _ h1
    exact .agg _ _ (by simpa using k1) fun i c v a b => (k2 i c v a (by simpa using b)).1
  · rename_i cs
    simp only [Option.map_eq_some_iff] at h
    obtain ⟨xs, h1, rfl⟩ := h
    obtain ⟨k1, k2⟩ := constL_rel (S := S) (w := w) _ _ h1
    exact .tup _ _ (by simpa using k1) fun i c v a b => (k2 i c v a (by simpa using b)).1
  · exact (constC_rel h).1

/-- nilCheck lets by what is surely not nil. -/
def nilchkA (x : AV) (μ : List AObj) : Option AV :=
  match x with
  | .tptr cs off => some (.tptr cs off)
  | .ptr id g sz i off => (place (.ptr id g sz i off) μ).map fun _ => .ptr id g sz i off
  | .fn (.func f) fi ca => some (.fn (.func f) fi ca)
  | _ => none

def strA : AV → Option AV
  | .str s => some (.str s)
  | _ => none

def evParts (env : List (Nat × AV)) (ps : List (Nat × Nat × SX)) : List (Nat × Nat × AV) := ps.map fun p => (p.1, p.2.1, evX env p.2.2)

def withMu (μ : List AObj) (x : Option AV) : Option (AV × List AObj) := x.map fun x => (x, μ)

def mkSA (e sz bytes : Nat) (zero : List AV) (x : AV) (μ : List AObj) : Option (AV × List AObj) :=
  match x with
  | .int .i64 n => if 0 ≤ n ∧ n * bytes ≤ 140737488355328 ∧ n ≤ 4611686018427387904 then some (.hsl μ.length 0 sz n.toNat, μ ++ [.row e 0 sz (List.replicate n.toNat zero)]) else none
  | _ => none

/-- The value and the objects that an operation leaves. -/
def capA (x : AV) : Option AV := match x with | .nilsl => some (.int .i64 0) | _ => none
def appNA (e sz bytes : Nat) (zero : List AV) (x n : AV) (μ : List AObj) : Option (AV × List AObj) :=
  match x, n with
  | .nilsl, .int .i64 n => if 0 < n ∧ n * bytes ≤ 140737488355328 ∧ n ≤ 4611686018427387904 then some (.hsl μ.length 0 sz n.toNat, μ ++ [.row e 0 sz (List.replicate n.toNat zero)]) else none
  | _, _ => none
def entA (x : AV) (μ : List AObj) : Option AV :=
  match x with
  | .mp id => match μ[id]? with | some (.iter _ _ (some (some (k, v), _))) => some (.tup [k, v]) | _ => none
  | _ => none
def sopA (s : SOp) (env : List (Nat × AV)) (μ : List AObj) : Option (AV × List AObj) :=
  match s with
  | .mv x => some (evX env x, μ)
  | .pick c a b => match evX env c with | .bool true => some (evX env a, μ) | .bool false => some (evX env b, μ) | _ => none
  | .bin op x y => withMu μ (binA op (evX env x) (evX env y))
  | .un op x => withMu μ (unA op (evX env x))
  | .conv k x => withMu μ (convA k (evX env x))
  | .mm mx x y => withMu μ (mmA mx (evX env x) (evX env y))
  | .box e x => boxA e (evX env x) μ
  | .load agg sz x => withMu μ (loadA agg sz (evX env x) μ)
  | .store sz x y => (storeA sz (evX env x) (evX env y) μ).map fun μ' => (.dead, μ')
  | .nilchk x => withMu μ (nilchkA (evX env x) μ)
  | .fa off x => withMu μ (faA off (evX env x) μ)
  | .fld agg sz off x => withMu μ (fldA agg sz off (evX env x))
  | .ixS sz x i => withMu μ (ixS sz (evX env x) (evX env i) μ)
  | .ixA n sz x i => withMu μ (ixA n sz (evX env x) (evX env i) μ)
  | .ext i x => withMu μ (extA i (evX env x))
  | .len x => withMu μ (lenA (evX env x) μ)
  | .lenS x => withMu μ (lenS (evX env x))
  | .app e sz bytes x y => appA e sz bytes (evX env x) (evX env y) μ
  | .mkfn f fi ca => some (.fn f (fi.map (evX env)) (ca.map (evX env)), μ)
  | .bld zero ps => withMu μ ((bldA μ zero (evParts env ps)).map .agg)
  | .bldS e sz n zero ps => (bldA μ zero (evParts env ps)).map fun cs => (.hsl μ.length 0 sz n, μ ++ [.row e 0 sz (chunks sz n cs)])
  | .mkS e sz bytes zero x => mkSA e sz bytes zero (evX env x) μ
  | .eqv neg l x y => withMu μ (eqvA neg l (evX env x) (evX env y))
  | .eqb neg x y => withMu μ (eqbA neg (evX env x) (evX env y))
  | .isnil k neg x => withMu μ (isnilA k neg (evX env x) μ)
  | .ixV agg n sz x i => withMu μ (ixVA agg n sz (evX env x) (evX env i))
  | .ixT x i => withMu μ (ixTA (evX env x) (evX env i))
  | .slS sz x lo hi => withMu μ (slSA sz (evX env x) (oEv env lo) (oEv env hi) μ)
  | .sl0 e sz x => sl0A e sz (evX env x) μ
  | .slT x lo hi => withMu μ (slTA (evX env x) (oEv env lo) (oEv env hi))
  | .slA n sz x lo hi => withMu μ (slAA n sz (evX env x) (oEv env lo) (oEv env hi))
  | .mkM => some (mkMA μ)
  | .look agg l zero ok m k => withMu μ (lookA agg l zero ok (evX env m) (evX env k) μ)
  | .putM agg l m k x => (putMA agg l (evX env m) (evX env k) (evX env x) μ).map fun μ' => (.dead, μ')
  | .mkI t x => some (.iface t (evX env x), μ)
  | .asI t ok zero x => withMu μ (asIA t ok zero (evX env x))
  | .cBT x => withMu μ (cBTA (evX env x) μ)
  | .cTB e x => cTBA e (evX env x) μ
  | .mkIt x => mkItA (evX env x) μ
  | .mkItM x => mkItMA (evX env x) μ
  | .nxt x => nxtA (evX env x) μ
  | .nxm _ => none
  | .ent x => withMu μ (entA (evX env x) μ)
  | .cap x => withMu μ (capA (evX env x))
  | .appN e sz bytes zs x n => appNA e sz bytes zs (evX env x) (evX env n) μ
  | .clr _ => none
  | .inv _ _ _ => none
  | .cTT x => withMu μ (strA (evX env x))
  | .pan _ => none
  | .call _ _ => none
  | .dyn _ _ => none

/-- The operands stand for what the machine reads. -/
def EvRel (ρ : Nat → Option (Nat × Nat)) (S : Nat → Prop) (μ : List AObj) (w : World) (env : List (Nat × AV)) (ev : Operand → Value) : Prop :=
  ∀ x sx, compX x = some sx → VR μ ρ S w (evX env sx) (ev x)

theorem oEv_rel {ρ S μ w env ev} {x : Option Operand} {sx : Option SX} (he : EvRel ρ S μ w env ev) (h : compO x = some sx) : ORel μ ρ S w (oEv env sx) (x.map ev) := by
  cases x with
  | none => simp [compO] at h; subst h; trivial
  | some x =>
    simp only [compO, Option.map_eq_some_iff] at h
    obtain ⟨y, h1, rfl⟩ := h
    exact he x y h1

/-- What a plain operation must come to. -/
def NextOK (K : Ctx) (ρ : Nat → Option (Nat × Nat)) (S : Nat → Prop) (μ : List AObj) (w : World) (s : Sem Next) (x : AV) (μ' : List AObj) : Prop :=
  ∃ v w' ρ' S', (s.run K.P w = .ok (.value v) w' ∨ (s.run K.P w = .ok .skip w' ∧ v = undef)) ∧ VR μ' ρ' S' w' x v ∧ RepMu K ρ' S' μ' w' ∧ Stab μ ρ S w μ' ρ' S' w'

theorem NextOK.of_op {K ρ S μ w s x μ'} {n : Sem Next} (h : OpOK K ρ S μ w s x μ') (hn : n = (do pure (.value (← s)))) : NextOK K ρ S μ w n x μ' := by
  obtain ⟨v, w', ρ', S', h1, h2⟩ := h
  exact ⟨v, w', ρ', S', .inl (by rw [hn]; simp [h1]), h2⟩

theorem withMu_inv {μ μ' : List AObj} {o : Option AV} {x : AV} (h : withMu μ o = some (x, μ')) : o = some x ∧ μ = μ' := by
  unfold withMu at h
  simp only [Option.map_eq_some_iff, Prod.mk.injEq] at h
  obtain ⟨y, h1, rfl, rfl⟩ := h
  exact ⟨h1, rfl⟩

theorem compXs_rel {ρ S μ w env ev} (he : EvRel ρ S μ w env ev) : ∀ (xs : List Operand) (ys : List SX), compXs xs = some ys → (ys.map (evX env)).length = (xs.map ev).length ∧ ∀ (i : Nat) c v, (ys.map (evX env))[i]? = some c → (xs.map ev)[i]? = some v → VR μ ρ S w c v
  | [], ys, h => by simp [compXs] at h; subst h; simp
  | x :: xs, ys, h => by
    simp only [compXs] at h
    split at h
    · rename_i y ys' h1 h2
      cases h
      obtain ⟨k1, k2⟩ := compXs_rel he xs ys' h2
      refine ⟨by simpa using k1, fun i c v hc hv => ?_⟩
      match i with
      | 0 => simp at hc hv; subst hc; subst hv; exact he x y h1
      | i + 1 => exact k2 i c v (by simpa using hc) (by simpa using hv)
    · cases h

theorem compParts_rel {ρ S μ w env ev} (he : EvRel ρ S μ w env ev) (pl : Nat → Option (Nat × Nat)) : ∀ (ps : List (Nat × Operand)) (as : List (Nat × Nat × SX)), compParts pl ps = some as →
    (ps.map fun p => (p.1, ev p.2)).length = (evParts env as).length ∧
    ∀ (i : Nat) k v off sz x, (ps.map fun p => (p.1, ev p.2))[i]? = some (k, v) → (evParts env as)[i]? = some (off, sz, x) → pl k = some (off, sz) ∧ VR μ ρ S w x v
  | [], as, h => by simp [compParts] at h; subst h; simp [evParts]
  | (k, x) :: r, as, h => by
    simp only [compParts] at h
    split at h
    · rename_i o s y ys h1 h2 h3
      cases h
      obtain ⟨k1, k2⟩ := compParts_rel he pl r ys h3
      refine ⟨by simpa [evParts] using k1, fun i k' v off sz x' ha hb => ?_⟩
      match i with
      | 0 =>
        simp [evParts] at ha hb
        obtain ⟨rfl, rfl⟩ := ha
        obtain ⟨rfl, rfl, rfl⟩ := hb
        exact ⟨h1, he x y h2⟩
      | i + 1 => exact k2 i k' v off sz x' (by simpa using ha) (by simpa [evParts] using hb)
    · cases h

theorem map_parts {ev : Operand → Value} (parts : Array (Nat × Operand)) : (parts.map fun (i, x) => (i, ev x)).toList = parts.toList.map fun p => (p.1, ev p.2) := by simp

theorem mkS_cells {zs : List Value} {n sz : Nat} (hz : zs.length = sz) (hsz : 0 < sz) {i j : Nat} (hi : i < n) (hj : j < sz) :
    ((Array.range (n * sz)).map fun k => (zs.toArray)[k % zs.toArray.size]!)[i * sz + j]? = zs[j]? := by
  have h1 : i * sz + j < n * sz := by
    have : i * sz + sz ≤ n * sz := by rw [← Nat.succ_mul]; exact Nat.mul_le_mul_right _ hi
    omega
  have e2 : (i * sz + j) % sz = j := by rw [Nat.add_comm, Nat.add_mul_mod_self_right, Nat.mod_eq_of_lt hj]
  have hj' : j < zs.length := by omega
  simp only [Array.getElem?_map, Array.getElem?_range, h1, if_true, Option.map_some, List.size_toArray, hz, e2]
  simp [hj', List.getElem?_eq_getElem hj']

end Go.Av
set_option linter.unusedVariables false
set_option linter.unnecessarySimpa false
set_option linter.unusedSimpArgs false
namespace Go.Av
open Go.RowKit

theorem wrap_i64 {x : Int} (h1 : -9223372036854775808 ≤ x) (h2 : x ≤ 9223372036854775807) : IntKind.i64.wrap x = x := by
  show (let m := x % (2 ^ 64 : Int); if true && decide (m ≥ (2 ^ 63 : Int)) then m - (2 ^ 64 : Int) else m) = x
  simp only [Bool.true_and, decide_eq_true_eq]
  split <;> omega

theorem capS_sound {K ρ S μ w x v r} {t ty : TypeId} {e : TypeId} (h : RepMu K ρ S μ w) (hv : VR μ ρ S w x v) (ht : K.P.underlying t = some (.slice e)) (hf : capA x = some r) : OpOK K ρ S μ w (Builtin.cap_ #[t] ty #[v]) r μ := by
  unfold capA at hf
  split at hf
  · cases hf
    have hv0 : v = .slice none 0 0 := by cases hv with | t h' => cases h'; rfl
    subst hv0
    exact .pure (v := .int .i64 0) h (by simp [Builtin.cap_, run_underlying ht, goInt]) (.t (.int _ _))
  · cases hf
theorem ent_sound {K ρ S μ w x v r} (h : RepMu K ρ S μ w) (hv : VR μ ρ S w x v) (hf : entA x μ = some r) : OpOK K ρ S μ w (Instr.entry v) r μ := by
  unfold entA at hf
  split at hf
  · rename_i id
    split at hf
    · rename_i s pos k u left ho
      cases hf
      have hb : ∃ B cap, v = .pointer (some ⟨B, 0, none⟩) ∧ ρ id = some (B, cap) := by
        cases hv with
        | t h' => cases h'
        | mp h1 _ => rw [ho] at h1; cases h1
        | mpGone _ h1 => rw [ho] at h1; cases h1
        | mpI h1 h2 => exact ⟨_, _, rfl, h2⟩
      obtain ⟨B, cap, rfl, hB⟩ := hb
      obtain ⟨B', cap', b1, b2, b3, mB, ents, clock, seen, e1, e2, e3, e5, -, f5⟩ := h.ob id _ ho
      rw [hB] at b1; cases b1
      obtain ⟨seen0, en, rfl, g1, g2, g3⟩ := f5 k u rfl
      have hn : (ents.toList.map (·.born)).Nodup := by
        rw [List.nodup_iff_pairwise_ne, List.pairwise_iff_getElem]
        intro i j hi hj hij
        simp only [List.length_map, Array.length_toList] at hi hj
        simp only [List.getElem_map, Array.getElem_toList]
        intro q
        have := e3.2 i j _ _ (Array.getElem?_eq_getElem hi) (Array.getElem?_eq_getElem hj) q
        omega
      refine .pure h (run_entry_at w B mB clock seen0 ents clock en e5 e2 g1 hn) (.t (.tup _ _ rfl fun i c y a b => ?_))
      match i with
      | 0 => simp at a b; subst a; subst b; exact g2
      | 1 => simp at a b; subst a; subst b; exact g3
      | i + 2 => simp at a
    · cases hf
  · cases hf
theorem mkSlice_sound {K ρ S μ w x v r μ'} {t e : TypeId} {i : TypeInfo} {z : Value} {zs : List AV} (h : RepMu K ρ S μ w) (hv : VR μ ρ S w x v) (ht : K.P.underlying t = some (.slice e)) (hi : K.P.info? e = some i) (hz : i.zero = some z)
    (hzs : constL z.cells.toList = some zs) (hl : zs.length = i.size) (hsz : 0 < i.size) (hf : mkSA e i.size i.bytes zs x μ = some (r, μ')) : OpOK K ρ S μ w (Instr.makeSlice t v v) r μ' := by
  unfold mkSA at hf
  split at hf
  · rename_i n
    split at hf
    · rename_i hb
      obtain ⟨b1, b2, b3⟩ := hb
      cases hf
      rw [int_inv hv]
      obtain ⟨k1, k2⟩ := constL_rel (S := S) (w := w) _ _ hzs
      have hzl : z.cells.toList.length = i.size := by rw [← k1, hl]
      obtain ⟨m, rfl⟩ := Int.eq_ofNat_of_zero_le b1
      have hwrap : IntKind.i64.wrap (m : Int) = m := by
        exact wrap_i64 (by omega) (by omega)
      have e1 : ¬ ((281474976710656 : Int) < (i.bytes : Int) * (m : Int)) := by rw [Int.mul_comm]; omega
      obtain ⟨a1, a2⟩ := h.alloc ((Array.range (m * i.size)).map fun k => (z.cells.toList.toArray)[k % z.cells.toList.toArray.size]!) e i.size m (List.replicate m zs) (by simp) (by simp) (by simp only [maxLen]; omega) (fun i' cs hi' => by
        have hlt : i' < m := by have := (List.getElem?_eq_some_iff.1 hi').1; simpa using this
        simp [List.getElem?_replicate, hlt] at hi'
        subst hi'
        refine ⟨hl, fun j c hj => ?_⟩
        have hjlt : j < i.size := by rw [← hl]; exact (List.getElem?_eq_some_iff.1 hj).1
        have hu : z.cells.toList[j]? = some z.cells.toList[j] := List.getElem?_eq_getElem (by omega)
        exact ⟨_, by rw [mkS_cells hzl hsz hlt hjlt]; exact hu, .t (k2 j c _ hj hu).1, (k2 j c _ hj hu).2⟩)
      refine ⟨.slice (some ⟨w.heap.size, 0, none⟩) m m, _, _, S, ?_, .hsl (e := e) (es := List.replicate m zs) (by simp) (by simp) (by simp), a1, a2⟩
      have e2 : ¬ (m * i.bytes > roomBytes) := by simp only [roomBytes]; omega
      have e3 : ¬ ((m : Int) < 0) := by omega
      have e4 : ¬ ((m : Int) > (m : Int)) := by omega
      have r0 : Array.range 0 = #[] := rfl
      by_cases hm : m * i.size = 0
      · simp [r0, Instr.makeSlice, run_underlying ht, asInt, asIntOf, typeInfo, hi, hwrap, e1, e3, askRoom, e2, run_sizeOf hi, hm, newRow, newObj, Sem.run, World.alloc_eq]
      · simp [Instr.makeSlice, run_underlying ht, asInt, asIntOf, typeInfo, hi, hwrap, e1, e3, askRoom, e2, run_sizeOf hi, hm, zeroValue, hz, newRow, newObj, Sem.run, World.alloc_eq]
    · cases hf
  · cases hf

theorem zeroCells_get {zs : List Value} {n : Nat} {i j sz : Nat} (hz : zs.length = sz) (hi : i < n) (hj : j < sz) : (Builtin.zeroCells zs.toArray n)[i * sz + j]? = zs[j]? := by
  unfold Builtin.zeroCells
  have hlt : i * sz + j < n * sz := by
    have : (i + 1) * sz ≤ n * sz := Nat.mul_le_mul_right _ (by omega)
    rw [Nat.succ_mul] at this
    omega
  have hm : (i * sz + j) % sz = j := by rw [Nat.mul_comm, Nat.mul_add_mod, Nat.mod_eq_of_lt hj]
  simp [hz, hlt, hm, hj]
theorem appN_sound {K ρ S μ w x v y u r μ'} {t tn ty e : TypeId} {i : TypeInfo} {z : Value} {zs : List AV} (h : RepMu K ρ S μ w) (hv : VR μ ρ S w x v) (hu : VR μ ρ S w y u) (ht : K.P.underlying t = some (.slice e)) (htn : K.P.underlying tn = some (.int .i64)) (hi : K.P.info? e = some i) (hz : i.zero = some z)
    (hzs : constL z.cells.toList = some zs) (hl : zs.length = i.size) (hsz : 0 < i.size) (hf : appNA e i.size i.bytes zs x y μ = some (r, μ')) : OpOK K ρ S μ w (Builtin.append_ #[t, tn] ty #[v, u]) r μ' := by
  unfold appNA at hf
  split at hf
  · rename_i n
    split at hf
    · rename_i hb
      obtain ⟨b1, b2, b3⟩ := hb
      cases hf
      have hv0 : v = .slice none 0 0 := by cases hv with | t h' => cases h'; rfl
      subst hv0
      rw [int_inv hu]
      obtain ⟨m, rfl⟩ := Int.eq_ofNat_of_zero_le (show 0 ≤ n by omega)
      obtain ⟨k1, k2⟩ := constL_rel (S := S) (w := w) _ _ hzs
      have hzl : z.cells.toList.length = i.size := by rw [← k1, hl]
      have hbn : m * i.bytes ≤ 140737488355328 := by rw [← Int.natCast_mul] at b2; omega
      have hr := Lib.run_append_nil_zeros (P := K.P) w t tn ty e i z .i64 .i64 ht htn hi hz m (by omega) hsz (by omega) (by omega)
      have hge := grownCap_ge w m 0 e
      have hcm : grownCap w m 0 e ≤ maxLen := grownCap_le_maxLen w m 0 e (by simp only [maxLen]; omega)
      have hd : RepMu K ρ S μ w.drew ∧ Stab μ ρ S w μ ρ S w.drew := h.same (Below.refl _ _).drew rfl
      have hzz : z.cells = z.cells.toList.toArray := by simp
      have hzc : ∀ k, (Builtin.zeroCells z.cells k).size = k * i.size := fun k => by
        have : z.cells.size = i.size := by simpa using hzl
        simp [Builtin.zeroCells, this]
      obtain ⟨a1, a2⟩ := hd.1.alloc (Builtin.zeroCells z.cells m ++ Builtin.zeroCells z.cells (grownCap w m 0 e - m)) e i.size (grownCap w m 0 e) (List.replicate m zs) (by
        rw [Array.size_append, hzc, hzc, ← Nat.add_mul]; congr 1; omega) (by simpa using hge) hcm (fun i' cs hi' => by
        have hlt : i' < m := by have := (List.getElem?_eq_some_iff.1 hi').1; simpa using this
        simp [List.getElem?_replicate, hlt] at hi'
        subst hi'
        refine ⟨hl, fun j c hj => ?_⟩
        have hjlt : j < i.size := by rw [← hl]; exact (List.getElem?_eq_some_iff.1 hj).1
        have hu : z.cells.toList[j]? = some z.cells.toList[j] := List.getElem?_eq_getElem (by omega)
        refine ⟨_, ?_, .t ((k2 j c _ hj hu).1.mono (fun _ h => h) (fun _ _ => rfl)), (k2 j c _ hj hu).2⟩
        have hlt2 : i' * i.size + j < (Builtin.zeroCells z.cells m).size := by
          rw [hzc]
          have : (i' + 1) * i.size ≤ m * i.size := Nat.mul_le_mul_right _ (by omega)
          rw [Nat.succ_mul] at this
          omega
        rw [Array.getElem?_append_left hlt2]
        have hzg := zeroCells_get (n := m) hzl hlt hjlt
        rw [← hzz] at hzg
        exact hzg.trans hu)
      exact ⟨_, _, _, S, hr, .hsl (e := e) (es := List.replicate m zs) (by simp) (by simp) (by simp), a1, hd.2.trans a2⟩
    · cases hf
  · cases hf
theorem buildS_sound {K ρ S μ w} {t e : TypeId} {n : Nat} {i : TypeInfo} {z : Value} {zs cs : List AV} {ps : Array (Nat × Value)} {as : List (Nat × Nat × AV)} (h : RepMu K ρ S μ w) (ht : K.P.underlying t = some (.slice e)) (hi : K.P.info? e = some i)
    (hz : i.zero = some z) (hzs : constL z.cells.toList = some zs) (hn : n * i.size ≤ 16777216) (hl : zs.length = i.size) (hsz : 0 < i.size) (hlen : ps.toList.length = as.length)
    (hp : ∀ (i' : Nat) k v off sz x, ps.toList[i']? = some (k, v) → as[i']? = some (off, sz, x) → (some (k * i.size, i.size) : Option (Nat × Nat)) = some (off, sz) ∧ VR μ ρ S w x v)
    (hf : bldA μ ((List.range (n * i.size)).map fun k => zs.getD (k % i.size) .dead) as = some cs) : OpOK K ρ S μ w (Instr.buildSlice t n ps) (.hsl μ.length 0 i.size n) (μ ++ [.row e 0 i.size (chunks i.size n cs)]) := by
  obtain ⟨k1, k2⟩ := constL_rel (S := S) (w := w) _ _ hzs
  have hzl : z.cells.toList.length = i.size := by rw [← k1, hl]
  have h0 : FlatRel K ρ S μ w ((Array.range (n * i.size)).map fun k => (z.cells.toList.toArray)[k % z.cells.toList.toArray.size]!) ((List.range (n * i.size)).map fun k => zs.getD (k % i.size) .dead) := by
    refine ⟨by simp, fun k c hk => ?_⟩
    have hlt : k < n * i.size := by have := (List.getElem?_eq_some_iff.1 hk).1; simpa using this
    simp [List.getElem?_range hlt] at hk
    have hm : k % i.size < i.size := Nat.mod_lt _ hsz
    have hx : zs[k % i.size]? = some zs[k % i.size] := List.getElem?_eq_getElem (by omega)
    have hu : z.cells.toList[k % i.size]? = some z.cells.toList[k % i.size] := List.getElem?_eq_getElem (by omega)
    rw [hx] at hk
    simp at hk
    subst hk
    refine ⟨z.cells.toList[k % i.size], ?_, .t (k2 _ _ _ hx hu).1, (k2 _ _ _ hx hu).2⟩
    have hkn : k / i.size < n := by rw [Nat.div_lt_iff_lt_mul hsz]; exact hlt
    have := mkS_cells hzl hsz hkn hm
    rw [show k / i.size * i.size + k % i.size = k by rw [Nat.mul_comm]; exact Nat.div_add_mod k i.size] at this
    rw [this]; exact hu
  obtain ⟨cells', f1, f2⟩ := fill_rel (fun k => some (k * i.size, i.size)) ps.toList as _ _ cs h0 hlen (fun i' k v off sz x a b => hp i' k v off sz x a b) hf
  have hcl : cs.length = n * i.size := by
    have hcells : ∀ (as : List (Nat × Nat × AV)) (a b : List AV), bldA μ a as = some b → b.length = a.length := by
      intro as
      induction as with
      | nil => intro a b hb; simp [bldA] at hb; rw [hb]
      | cons p r ih =>
        obtain ⟨off, sz, x⟩ := p
        intro a b hb
        simp only [bldA] at hb
        split at hb
        · rename_i hc
          rw [ih _ _ hb]; simp; omega
        · cases hb
    rw [hcells _ _ _ hf]; simp
  obtain ⟨a1, a2⟩ := h.alloc cells' e i.size n (chunks i.size n cs) (by rw [f2.1, hcl]) (by rw [chunks_length]; exact Nat.le_refl _) (by
    have : n ≤ n * i.size := Nat.le_mul_of_pos_right n hsz
    simp only [maxLen]; omega) (fun i' c hc => by
    obtain ⟨c1, c2, c3⟩ := chunks_get i.size n cs i' c hcl hc
    refine ⟨c2, fun j y hj => ?_⟩
    have hjlt : j < i.size := by rw [← c2]; exact (List.getElem?_eq_some_iff.1 hj).1
    rw [c3 j hjlt] at hj
    exact f2.2 _ y hj)
  refine ⟨.slice (some ⟨w.heap.size, 0, none⟩) n n, _, _, S, ?_, .hsl (e := e) (es := chunks i.size n cs) (by simp) (by rw [chunks_length]; exact Nat.le_refl _) (by simp), a1, a2⟩
  have e1 : ¬ (n * i.size > 2 ^ 24) := by omega
  by_cases hm : n * i.size = 0
  · have : n = 0 := by rcases Nat.mul_eq_zero.1 hm with h | h <;> omega
    subst this
    simp only [Nat.zero_mul] at f1 ⊢
    simp [Instr.buildSlice, run_underlying ht, run_sizeOf hi]
    have r0 : Array.range 0 = #[] := rfl
    simp [r0] at f1 ⊢
    rw [f1]
    simp [newRow, newObj, Sem.run, World.alloc_eq]
  · simp only [Array.toArray_toList] at f1
    simp [Instr.buildSlice, run_underlying ht, run_sizeOf hi, hm, e1, zeroValue, typeInfo, hi, hz]
    rw [f1]
    simp [newRow, newObj, Sem.run, World.alloc_eq]

theorem nilchk_sound {K ρ S μ w x v r} (h : RepMu K ρ S μ w) (hv : VR μ ρ S w x v) (hf : nilchkA x μ = some r) : VR μ ρ S w r v ∧ ((∃ b, v = .pointer (some b)) ∨ ∃ f a b, v = .func (.func f) a b) := by
  unfold nilchkA at hf
  split at hf
  · cases hf
    refine ⟨hv, .inl ?_⟩
    obtain ⟨b, o, f, rfl, _⟩ := place_sound h (p := .tptr _ _) rfl hv
    exact ⟨_, rfl⟩
  · simp only [Option.map_eq_some_iff] at hf
    obtain ⟨y, h1, rfl⟩ := hf
    obtain ⟨b, o, f, rfl, _⟩ := place_sound h h1 hv
    exact ⟨hv, .inl ⟨_, rfl⟩⟩
  · cases hf
    refine ⟨hv, .inr ?_⟩
    cases hv with
    | t h' => cases h'; exact ⟨_, _, _, rfl⟩
    | fn => exact ⟨_, _, _, rfl⟩
  · cases hf

theorem slT_conv {K ρ S μ w x v r} {s t : TypeId} (h : RepMu K ρ S μ w) (hv : VR μ ρ S w x v) (hs : K.P.underlying s = some .string) (ht : K.P.underlying t = some .string) (hf : strA x = some r) : OpOK K ρ S μ w (convert s t v) r μ := by
  unfold strA at hf
  split at hf
  · cases hf
    rw [str_inv hv]
    exact .pure h (by simp [convert, run_underlying hs, run_underlying ht]) (.t (.str _))
  · cases hf

set_option maxHeartbeats 4000000 in
theorem sop_sound {K ρ S μ w env ev x μ'} {o : Oper} {s : SOp} (h : RepMu K ρ S μ w) (he : EvRel ρ S μ w env ev) (hev : ∀ k, ev (.const k) = k) (hc : compOp K.P o = some s) (hs : sopA s env μ = some (x, μ')) : NextOK K ρ S μ w (execOp ev o) x μ' := by
  obtain ⟨dst, op, type, pos, after, guard⟩ := o
  cases op <;> (try simp only [compOp] at hc) <;> try (cases hc; done)
  case move y | assign y =>
    all_goals
      simp only [Option.map_eq_some_iff] at hc
      obtain ⟨sx, h1, rfl⟩ := hc
      simp only [sopA, Option.some.injEq, Prod.mk.injEq] at hs
      obtain ⟨rfl, rfl⟩ := hs
      exact ⟨ev y, w, ρ, S, .inl rfl, he _ _ h1, h, Stab.refl _ _ _ _⟩
  case pick c a b =>
    split at hc <;> cases hc
    rename_i c' a' b' h1 h2 h3
    simp only [sopA] at hs
    split at hs
    · rename_i ht
      simp only [Option.some.injEq, Prod.mk.injEq] at hs
      obtain ⟨rfl, rfl⟩ := hs
      have hcv := he _ _ h1
      rw [ht] at hcv
      have hcv := bool_inv hcv
      exact ⟨ev a, w, ρ, S, .inl (by simp [execOp, hcv, asBool]), he _ _ h2, h, Stab.refl _ _ _ _⟩
    · rename_i ht
      simp only [Option.some.injEq, Prod.mk.injEq] at hs
      obtain ⟨rfl, rfl⟩ := hs
      have hcv := he _ _ h1
      rw [ht] at hcv
      have hcv := bool_inv hcv
      exact ⟨ev b, w, ρ, S, .inl (by simp [execOp, hcv, asBool]), he _ _ h3, h, Stab.refl _ _ _ _⟩
    · cases hs
  case binOp op t a b t' =>
    split at hc
    · rename_i a' b' h1 h2
      split at hc
      · rename_i neg fs hop ht
        split at hc
        · cases hc
        rename_i hg
        simp only [Option.map_eq_some_iff] at hc
        obtain ⟨l, hl, rfl⟩ := hc
        obtain ⟨e1, rfl⟩ := withMu_inv hs
        exact .of_op (eqv_sound h (he _ _ h1) (he _ _ h2) hop ht rfl hg hl e1 a b) rfl
      · rename_i neg n e hop ht
        split at hc
        · cases hc
        rename_i hg
        simp only [Option.map_eq_some_iff] at hc
        obtain ⟨l, hl, rfl⟩ := hc
        obtain ⟨e1, rfl⟩ := withMu_inv hs
        exact .of_op (eqv_sound h (he _ _ h1) (he _ _ h2) hop ht rfl hg hl e1 a b) rfl
      · rename_i neg hop ht
        cases hc
        obtain ⟨e1, rfl⟩ := withMu_inv hs
        exact .of_op (eqb_sound h (he _ _ h1) (he _ _ h2) hop ht e1 a b) rfl
      · rename_i neg d _ _ _ hop ht
        split at hc
        · rename_i k hk
          cases hc
          obtain ⟨e1, rfl⟩ := withMu_inv hs
          exact .of_op (isnil_sound h (he _ _ h1) hop ht hk hev e1 a) rfl
        · cases hc
          obtain ⟨e1, rfl⟩ := withMu_inv hs
          exact .of_op (bin_sound h (he _ _ h1) (he _ _ h2) e1 a b) rfl
      · cases hc
        obtain ⟨e1, rfl⟩ := withMu_inv hs
        exact .of_op (bin_sound h (he _ _ h1) (he _ _ h2) e1 a b) rfl
    · cases hc
  case unOp op t a =>
    simp only [Option.map_eq_some_iff] at hc
    obtain ⟨sx, h1, rfl⟩ := hc
    obtain ⟨e1, rfl⟩ := withMu_inv hs
    exact .of_op (un_sound h (he _ _ h1) e1) rfl
  case convert s t a =>
    split at hc
    · rename_i d k a' h1 h2 h3
      cases hc
      obtain ⟨e1, rfl⟩ := withMu_inv hs
      exact .of_op (conv_sound h (he _ _ h3) h1 h2 e1) rfl
    · rename_i a' h1 h2 h3
      cases hc
      obtain ⟨e1, rfl⟩ := withMu_inv hs
      exact .of_op (slT_conv h (he _ _ h3) h1 h2 e1) rfl
    · rename_i e a' h1 h2 h3
      split at hc
      · rename_i h4
        cases hc
        obtain ⟨e1, rfl⟩ := withMu_inv hs
        exact .of_op (cBT_sound h (he _ _ h3) h1 h4 h2 e1) rfl
      · cases hc
    · rename_i e a' h1 h2 h3
      split at hc
      · rename_i h4
        cases hc
        exact .of_op (cTB_sound h (he _ _ h3) h1 h2 h4 hs) rfl
      · cases hc
    · cases hc
  case box e a =>
    simp only [Option.map_eq_some_iff] at hc
    obtain ⟨sx, h1, rfl⟩ := hc
    exact .of_op (box_sound h (he _ _ h1) hs) rfl
  case alloc e =>
    split at hc
    · rename_i z hz
      simp only [Option.map_eq_some_iff] at hc
      obtain ⟨za, h1, rfl⟩ := hc
      simp only [Option.bind_eq_some_iff] at hz
      obtain ⟨i, hi, hz⟩ := hz
      obtain ⟨v, w', ρ', S', r1, r2⟩ := box_sound (K := K) (e := e) h (.t (constA_rel h1)) hs
      refine ⟨v, w', ρ', S', .inl ?_, r2⟩
      have : (Instr.alloc e true (.tuple #[])).run K.P w = .ok v w' := by
        rw [← r1]; simp [Instr.alloc, zeroValue, typeInfo, hi, hz, Instr.box]
      simp [execOp, this]
    · cases hc
  case load t a =>
    split at hc <;> cases hc
    rename_i d i a' h1 h2 h3
    obtain ⟨e1, rfl⟩ := withMu_inv hs
    exact .of_op (load_sound h (he _ _ h3) h1 h2 e1) rfl
  case store t a b =>
    split at hc <;> cases hc
    rename_i i a' b' h1 h2 h3
    simp only [sopA, Option.map_eq_some_iff, Prod.mk.injEq] at hs
    obtain ⟨μ1, e1, rfl, rfl⟩ := hs
    obtain ⟨w', r1, r2, r3⟩ := store_sound h (he _ _ h2) (he _ _ h3) h1 e1
    exact ⟨undef, w', ρ, S, .inr ⟨by simp [execOp, r1], rfl⟩, .dead _, r2, r3⟩
  case nilCheck a =>
    simp only [Option.map_eq_some_iff] at hc
    obtain ⟨sx, h1, rfl⟩ := hc
    obtain ⟨e1, rfl⟩ := withMu_inv hs
    obtain ⟨r1, r2⟩ := nilchk_sound h (he _ _ h1) e1
    refine ⟨ev a, w, ρ, S, .inl ?_, r1, h, Stab.refl _ _ _ _⟩
    rcases r2 with ⟨b, hb⟩ | ⟨f, x1, x2, hb⟩
    · simp [execOp, hb]
    · simp [execOp, hb]
  case fieldAddr s a k =>
    split at hc
    · rename_i fs a' h1 h2
      split at hc
      · rename_i f h3
        split at hc
        · rename_i i h4
          split at hc
          · cases hc
          · rename_i hz
            cases hc
            obtain ⟨e1, rfl⟩ := withMu_inv hs
            exact .of_op (fa_sound h (he _ _ h2) h1 h3 h4 hz e1) rfl
        · cases hc
      · cases hc
    · cases hc
  case field s a k =>
    split at hc
    · rename_i fs a' h1 h2
      split at hc
      · rename_i f h3
        split at hc
        · rename_i d i h4 h5
          cases hc
          obtain ⟨e1, rfl⟩ := withMu_inv hs
          exact .of_op (fld_sound h (he _ _ h2) h1 h3 h4 h5 e1) rfl
        · cases hc
      · cases hc
    · cases hc
  case indexAddr t a ix =>
    split at hc
    · rename_i e a' ix' h1 h2 h3
      simp only [Option.map_eq_some_iff] at hc
      obtain ⟨i, hi, rfl⟩ := hc
      obtain ⟨e1, rfl⟩ := withMu_inv hs
      exact .of_op (ixS_sound h (he _ _ h2) (he _ _ h3) h1 hi e1) rfl
    · rename_i n e a' ix' h1 h2 h3
      simp only [Option.map_eq_some_iff] at hc
      obtain ⟨i, hi, rfl⟩ := hc
      obtain ⟨e1, rfl⟩ := withMu_inv hs
      exact .of_op (ixA_sound h (he _ _ h2) (he _ _ h3) h1 hi e1) rfl
    · cases hc
  case extract a k =>
    simp only [Option.map_eq_some_iff] at hc
    obtain ⟨sx, h1, rfl⟩ := hc
    obtain ⟨e1, rfl⟩ := withMu_inv hs
    exact .of_op (ext_sound h (he _ _ h1) e1) rfl
  case makeFunc f fi ca =>
    split at hc <;> cases hc
    rename_i fi' ca' h1 h2
    simp only [sopA, Option.some.injEq, Prod.mk.injEq] at hs
    obtain ⟨rfl, rfl⟩ := hs
    obtain ⟨k1, k2⟩ := compXs_rel he _ _ h1
    obtain ⟨k3, k4⟩ := compXs_rel he _ _ h2
    refine ⟨.func f (fi.map ev) (ca.map ev), w, ρ, S, .inl (by simp [execOp, Instr.makeFunc]), .fn _ _ _ _ _ (by simpa using k1) (by simpa using k3) (fun i c v a b => k2 i c v a (by simpa using b)) (fun i c v a b => k4 i c v a (by simpa using b)), h, Stab.refl _ _ _ _⟩
  case build t parts =>
    split at hc
    · rename_i fs i h1 h2
      split at hc
      · rename_i z pl h3 h4
        split at hc
        · rename_i zs ps h5 h6
          cases hc
          obtain ⟨e1, rfl⟩ := withMu_inv hs
          simp only [Option.map_eq_some_iff] at e1
          obtain ⟨cs, e1, rfl⟩ := e1
          have hzc : ∃ zc : Array Value, z = .agg zc ∧ constL zc.toList = some zs := by
            cases z <;> simp [constA, constC] at h5
            · split at h5 <;> simp at h5
            · split at h5 <;> simp at h5
            · split at h5 <;> simp at h5
            · exact ⟨_, rfl, h5⟩
          obtain ⟨zc, rfl, hzc⟩ := hzc
          obtain ⟨k1, k2⟩ := constL_rel (S := S) (w := w) _ _ hzc
          have h0 : FlatRel K ρ S μ w zc zs := ⟨by have := k1.symm; simpa using this, fun j c hj => by
            have hlt : j < zc.toList.length := by rw [← k1]; exact (List.getElem?_eq_some_iff.1 hj).1
            have hu : zc.toList[j]? = some zc.toList[j] := List.getElem?_eq_getElem hlt
            exact ⟨_, by simpa using hu, .t (k2 j c _ hj hu).1, (k2 j c _ hj hu).2⟩⟩
          obtain ⟨p1, p2⟩ := compParts_rel he (pl.toArray[·]?) _ _ h6
          obtain ⟨cells', f1, f2⟩ := fill_rel (pl.toArray[·]?) (parts.toList.map fun p => (p.1, ev p.2)) (evParts env ps) zc zs cs h0 p1 p2 e1
          refine ⟨.agg cells', w, ρ, S, .inl ?_, flat_agg f2, h, Stab.refl _ _ _ _⟩
          have hb : K.P.built t (parts.map fun (i, x) => (i, ev x)).toList = some cells' := by
            rw [map_parts]
            simp only [Program.built, h1, h2, h3]
            have : fs.toList.mapM (fun f => (K.P.info? f.type).map fun i => (f.offset, i.size)) = some pl := h4
            rw [this]
            exact f1
          simp only [execOp]
          rw [Sem.run_bind, run_build w t _ cells' hb]
          rfl
        · cases hc
      · cases hc
    · rename_i len e i h1 h2
      split at hc
      · rename_i z ie h3 h4
        split at hc
        · rename_i zs ps h5 h6
          cases hc
          obtain ⟨e1, rfl⟩ := withMu_inv hs
          simp only [Option.map_eq_some_iff] at e1
          obtain ⟨cs, e1, rfl⟩ := e1
          have hzc : ∃ zc : Array Value, z = .agg zc ∧ constL zc.toList = some zs := by
            cases z <;> simp [constA, constC] at h5
            · split at h5 <;> simp at h5
            · split at h5 <;> simp at h5
            · split at h5 <;> simp at h5
            · exact ⟨_, rfl, h5⟩
          obtain ⟨zc, rfl, hzc⟩ := hzc
          obtain ⟨k1, k2⟩ := constL_rel (S := S) (w := w) _ _ hzc
          have h0 : FlatRel K ρ S μ w zc zs := ⟨by have := k1.symm; simpa using this, fun j c hj => by
            have hlt : j < zc.toList.length := by rw [← k1]; exact (List.getElem?_eq_some_iff.1 hj).1
            have hu : zc.toList[j]? = some zc.toList[j] := List.getElem?_eq_getElem hlt
            exact ⟨_, by simpa using hu, .t (k2 j c _ hj hu).1, (k2 j c _ hj hu).2⟩⟩
          obtain ⟨p1, p2⟩ := compParts_rel he (fun k => some (k * ie.size, ie.size)) _ _ h6
          obtain ⟨cells', f1, f2⟩ := fill_rel (fun k => some (k * ie.size, ie.size)) (parts.toList.map fun p => (p.1, ev p.2)) (evParts env ps) zc zs cs h0 p1 p2 e1
          refine ⟨.agg cells', w, ρ, S, .inl ?_, flat_agg f2, h, Stab.refl _ _ _ _⟩
          have hb : K.P.built t (parts.map fun (i, x) => (i, ev x)).toList = some cells' := by
            rw [map_parts]
            simp only [Program.built, h1, h2, h3, h4]
            exact f1
          simp only [execOp]
          rw [Sem.run_bind, run_build w t _ cells' hb]
          rfl
        · cases hc
      · cases hc
    · cases hc
  case index t a ix =>
    split at hc
    · rename_i n e a' ix' h1 h2 h3
      split at hc
      · rename_i d i h4 h5
        cases hc
        obtain ⟨e1, rfl⟩ := withMu_inv hs
        exact .of_op (ixV_sound h (he _ _ h2) (he _ _ h3) h1 h4 h5 e1) rfl
      · cases hc
    · rename_i a' ix' h1 h2 h3
      cases hc
      obtain ⟨e1, rfl⟩ := withMu_inv hs
      exact .of_op (ixT_sound h (he _ _ h2) (he _ _ h3) h1 e1) rfl
    · cases hc
  case slice t a lo hi mx =>
    split at hc
    · rename_i sx h1
      split at hc
      · rename_i e lo' hi' h2 h3 h4
        simp only [Option.map_eq_some_iff] at hc
        obtain ⟨i, h5, rfl⟩ := hc
        obtain ⟨e1, rfl⟩ := withMu_inv hs
        exact .of_op (slS_sound h (he _ _ h1) (oEv_rel he h3) (oEv_rel he h4) h2 h5 e1) rfl
      · rename_i lo' hi' h2 h3 h4
        cases hc
        obtain ⟨e1, rfl⟩ := withMu_inv hs
        exact .of_op (slT_sound h (he _ _ h1) (oEv_rel he h3) (oEv_rel he h4) h2 e1) rfl
      · rename_i n e lo' hi' h2 h3 h4
        simp only [Option.map_eq_some_iff] at hc
        obtain ⟨i, h5, rfl⟩ := hc
        obtain ⟨e1, rfl⟩ := withMu_inv hs
        exact .of_op (slA_sound h (he _ _ h1) (oEv_rel he h3) (oEv_rel he h4) h2 h5 e1) rfl
      · cases hc
    · rename_i sx m h1
      split at hc
      · rename_i e h2
        split at hc
        · rename_i hz
          simp only [Option.map_eq_some_iff] at hc
          obtain ⟨i, h5, rfl⟩ := hc
          simp only [Bool.and_eq_true] at hz
          obtain ⟨⟨z1, z2⟩, z3⟩ := hz
          have hlo : lo = none := by cases lo <;> simp at z1; rfl
          subst hlo
          obtain ⟨k1, g1⟩ := isZero_ev hev z2
          obtain ⟨k2, g2⟩ := isZero_ev hev z3
          have := sl0_sound (k1 := k1) (k2 := k2) h (he _ _ h1) h2 h5 hs
          refine .of_op this ?_
          simp only [execOp, g1, Option.map_none]
          rw [show Option.map ev (some m) = some (.int k2 0) from g2]
        · cases hc
      · cases hc
    · cases hc
  case makeMap t r =>
    cases r with
    | some _ => simp at hc
    | none =>
      cases hc
      simp only [sopA, Option.some.injEq] at hs
      have := mkM_sound (t := t) h
      rw [hs] at this
      exact .of_op this rfl
  case range t a =>
    split at hc
    · rename_i a' h1 h2
      cases hc
      exact .of_op (mkIt_sound h (he _ _ h2) h1 hs) rfl
    · rename_i kt et a' h1 h2
      cases hc
      exact .of_op (mkItM_sound h (he _ _ h2) h1 hs) rfl
    · cases hc
  case entry a =>
    simp only [Option.map_eq_some_iff] at hc
    obtain ⟨sx, h1, rfl⟩ := hc
    obtain ⟨e1, rfl⟩ := withMu_inv hs
    exact .of_op (ent_sound h (he _ _ h1) e1) rfl
  case next a b =>
    cases b with
    | false =>
      simp only [Option.map_eq_some_iff] at hc
      obtain ⟨sx, h1, rfl⟩ := hc
      simp [sopA] at hs
    | true =>
      simp only [Option.map_eq_some_iff] at hc
      obtain ⟨sx, h1, rfl⟩ := hc
      exact .of_op (nxt_sound h (he _ _ h1) hs) rfl
  case lookup t a ix ok =>
    split at hc
    · rename_i k e a' ix' h1 h2 h3
      split at hc
      · rename_i d l z h4 h5 h6
        simp only [Option.map_eq_some_iff] at hc
        obtain ⟨za, h7, rfl⟩ := hc
        obtain ⟨e1, rfl⟩ := withMu_inv hs
        simp only [Option.bind_eq_some_iff] at h6
        obtain ⟨i, hi, hz⟩ := h6
        exact .of_op (look_sound h (he _ _ h2) (he _ _ h3) h1 h4 h5 hi hz (constA_rel h7) e1) rfl
      · cases hc
    · cases hc
  case mapUpdate t m k y =>
    split at hc
    · rename_i kt e m' k' y' h1 h2 h3 h4
      split at hc
      · rename_i d l h5 h6
        split at hc
        · rename_i hcv
          cases hc
          simp only [sopA, Option.map_eq_some_iff, Prod.mk.injEq] at hs
          obtain ⟨μ1, e1, rfl, rfl⟩ := hs
          obtain ⟨w', r1, r2, r3⟩ := putM_sound h (he _ _ h2) (he _ _ h3) (he _ _ h4) h1 h5 h6 hcv e1
          exact ⟨undef, w', ρ, S, .inr ⟨by simp [execOp, r1], rfl⟩, .dead _, r2, r3⟩
        · cases hc
      · cases hc
    · cases hc
  case insert t m k y =>
    split at hc
    · rename_i kt e m' k' y' h1 h2 h3 h4
      split at hc
      · rename_i d l h5 h6
        split at hc
        · rename_i hcv
          cases hc
          simp only [sopA, Option.map_eq_some_iff, Prod.mk.injEq] at hs
          obtain ⟨μ1, e1, rfl, rfl⟩ := hs
          obtain ⟨w', r1, r2, r3⟩ := putM_sound h (he _ _ h2) (he _ _ h3) (he _ _ h4) h1 h5 h6 hcv e1
          exact ⟨undef, w', ρ, S, .inr ⟨by simp [execOp, r1], rfl⟩, .dead _, r2, r3⟩
        · cases hc
      · cases hc
    · cases hc
  case makeInterface t a =>
    split at hc
    · cases hc
    · rename_i d hni h1
      simp only [Option.map_eq_some_iff] at hc
      obtain ⟨sx, h2, rfl⟩ := hc
      simp only [sopA, Option.some.injEq, Prod.mk.injEq] at hs
      obtain ⟨rfl, rfl⟩ := hs
      exact .of_op (mkI_sound h (he _ _ h2) h1 (fun m e => hni m (by rw [e]))) rfl
    · cases hc
  case typeAssert a xt t ok =>
    split at hc
    · cases hc
    · rename_i d hni h1
      split at hc
      · rename_i z sx h2 h3
        simp only [Option.map_eq_some_iff] at hc
        obtain ⟨za, h7, rfl⟩ := hc
        obtain ⟨e1, rfl⟩ := withMu_inv hs
        simp only [Option.bind_eq_some_iff] at h2
        obtain ⟨i, hi, hz⟩ := h2
        exact .of_op (asI_sound h (he _ _ h3) h1 (fun m e => hni m (by rw [e])) hi hz (constA_rel h7) e1) rfl
      · cases hc
    · cases hc
  case panic a =>
    simp only [Option.map_eq_some_iff] at hc
    obtain ⟨sx, h2, rfl⟩ := hc
    simp [sopA] at hs
  case buildSlice t n parts =>
    split at hc
    · rename_i e h1
      split at hc
      · rename_i i h2
        split at hc
        · rename_i z h3
          split at hc
          · rename_i zs ps h4 h5
            split at hc
            · rename_i hh
              cases hc
              simp only [sopA, Option.map_eq_some_iff, Prod.mk.injEq] at hs
              obtain ⟨cs, e1, rfl, rfl⟩ := hs
              obtain ⟨p1, p2⟩ := compParts_rel he (fun k => some (k * i.size, i.size)) _ _ h5
              refine .of_op (buildS_sound (ps := parts.map fun (i, x) => (i, ev x)) h h1 h2 h3 h4 hh.1 hh.2.1 hh.2.2 (by rw [map_parts]; exact p1) (by rw [map_parts]; exact p2) e1) rfl
            · cases hc
          · cases hc
        · cases hc
      · cases hc
    · cases hc
  case makeSlice t l c =>
    split at hc
    · rename_i e h1
      split at hc
      · rename_i i h2
        split at hc
        · rename_i z h3
          split at hc
          · rename_i zs l' a b h4 h5
            split at hc
            · rename_i hh
              cases hc
              obtain ⟨rfl, hh2, hh3⟩ := hh
              exact .of_op (mkSlice_sound h (he _ _ h5) h1 h2 h3 h4 hh2 hh3 hs) rfl
            · cases hc
          · cases hc
        · cases hc
      · cases hc
    · cases hc
  case call c =>
    obtain ⟨callee, args, argTypes⟩ := c
    cases callee with
    | value f => cases f <;> simp only at hc <;> first | (cases hc; done) | (simp only [Option.map_eq_some_iff] at hc; obtain ⟨y, h1, rfl⟩ := hc; simp [sopA] at hs)
    | invoke r m =>
      simp only at hc
      split at hc
      · cases hc; simp [sopA] at hs
      · cases hc
    | builtin b =>
      cases b <;> simp only at hc <;> try (cases hc; done)
      case panic =>
        split at hc
        · simp only [Option.map_eq_some_iff] at hc
          obtain ⟨sx, h2, rfl⟩ := hc
          simp [sopA] at hs
        · cases hc
      case append =>
        split at hc
        · rename_i y z t u ha1 ha2
          obtain rfl : args = #[y, z] := Array.ext' (by simpa using ha1)
          obtain rfl : argTypes = #[t, u] := Array.ext' (by simpa using ha2)
          split at hc
          · rename_i htu
            subst htu
            split at hc
            · rename_i e h1
              split at hc
              · rename_i i h2
                split at hc
                · rename_i zz y' z' h3 h4 h5
                  split at hc
                  · rename_i hh
                    cases hc
                    exact .of_op (app_sound (ty := type) h (he _ _ h4) (he _ _ h5) h1 h2 h3 hh.1 hh.2 hs) (by simp [execOp, resolve, invoke, builtin])
                  · cases hc
                · cases hc
              · cases hc
            · cases hc
          · split at hc
            · rename_i e h1 h1'
              split at hc
              · rename_i i h2
                split at hc
                · rename_i zz h3
                  split at hc
                  · rename_i zs y' z' h6 h4 h5
                    split at hc
                    · rename_i hh
                      cases hc
                      exact .of_op (appN_sound (ty := type) h (he _ _ h4) (he _ _ h5) h1 h1' h2 h3 h6 hh.1 hh.2 hs) (by simp [execOp, resolve, invoke, builtin])
                    · cases hc
                  · cases hc
                · cases hc
              · cases hc
            · cases hc
        · cases hc
      case cap =>
        split at hc
        · rename_i y t ha1 ha2
          obtain rfl : args = #[y] := Array.ext' (by simpa using ha1)
          obtain rfl : argTypes = #[t] := Array.ext' (by simpa using ha2)
          split at hc
          · rename_i e h1
            simp only [Option.map_eq_some_iff] at hc
            obtain ⟨y', h2, rfl⟩ := hc
            obtain ⟨e1, rfl⟩ := withMu_inv hs
            exact .of_op (capS_sound (ty := type) h (he _ _ h2) h1 e1) (by simp [execOp, resolve, invoke, builtin])
          · cases hc
        · cases hc
      case clear =>
        split at hc
        · simp only [Option.map_eq_some_iff] at hc
          obtain ⟨y', h2, rfl⟩ := hc
          simp [sopA] at hs
        · cases hc
      case len =>
        split at hc
        · rename_i y t ha1 ha2
          obtain rfl : args = #[y] := Array.ext' (by simpa using ha1)
          obtain rfl : argTypes = #[t] := Array.ext' (by simpa using ha2)
          split at hc
          · rename_i e h1
            simp only [Option.map_eq_some_iff] at hc
            obtain ⟨y', h2, rfl⟩ := hc
            obtain ⟨e1, rfl⟩ := withMu_inv hs
            exact .of_op (len_sound (ty := type) h (he _ _ h2) h1 e1) (by simp [execOp, resolve, invoke, builtin])
          · rename_i h1
            simp only [Option.map_eq_some_iff] at hc
            obtain ⟨y', h2, rfl⟩ := hc
            obtain ⟨e1, rfl⟩ := withMu_inv hs
            exact .of_op (lenS_sound (ty := type) h (he _ _ h2) h1 e1) (by simp [execOp, resolve, invoke, builtin])
          · cases hc
        · cases hc
      case max =>
        split at hc
        · rename_i y z ha1
          obtain rfl : args = #[y, z] := Array.ext' (by simpa using ha1)
          split at hc <;> cases hc
          rename_i y' z' h1 h2
          obtain ⟨e1, rfl⟩ := withMu_inv hs
          exact .of_op (mm_sound (ts := argTypes) (ty := type) (mx := true) h (he _ _ h1) (he _ _ h2) e1) (by simp [execOp, resolve, invoke, builtin])
        · cases hc
      case min =>
        split at hc
        · rename_i y z ha1
          obtain rfl : args = #[y, z] := Array.ext' (by simpa using ha1)
          split at hc <;> cases hc
          rename_i y' z' h1 h2
          obtain ⟨e1, rfl⟩ := withMu_inv hs
          exact .of_op (mm_sound (ts := argTypes) (ty := type) (mx := false) h (he _ _ h1) (he _ _ h2) e1) (by simp [execOp, resolve, invoke, builtin])
        · cases hc

end Go.Av
