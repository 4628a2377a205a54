/- An evaluator of the program: a deterministic reading of the machine over a heap of locations. Conditions: none. -/
import GoSem.Step
import GoSem.Machine.Start
namespace Pri
open Go
noncomputable section

/-! trees keyed by numbers -/
inductive Tri (α : Type) where
  | leaf
  | node (l : Tri α) (v : Option α) (r : Tri α)

def Tri.get {α : Type} (t : Tri α) : Nat → Option α :=
  Tri.rec (motive := fun _ => Nat → Option α) (fun _ => none)
    (fun _ v _ gl gr n => Bool.rec (motive := fun _ => Option α)
      (Bool.rec (motive := fun _ => Option α) (gr (Nat.div (Nat.sub n 1) 2)) (gl (Nat.div n 2)) (Nat.beq (Nat.mod n 2) 1)) v (Nat.beq n 0)) t

def Tri.left {α : Type} (t : Tri α) : Tri α := Tri.rec (motive := fun _ => Tri α) .leaf (fun l _ _ _ _ => l) t
def Tri.right {α : Type} (t : Tri α) : Tri α := Tri.rec (motive := fun _ => Tri α) .leaf (fun _ _ r _ _ => r) t
def Tri.val {α : Type} (t : Tri α) : Option α := Tri.rec (motive := fun _ => Option α) none (fun _ v _ _ _ => v) t

def Tri.setF {α : Type} (a : α) (f : Nat) : Tri α → Nat → Tri α :=
  Nat.rec (motive := fun _ => Tri α → Nat → Tri α) (fun t _ => t)
    (fun _ ih t n => Bool.rec (motive := fun _ => Tri α)
      (Bool.rec (motive := fun _ => Tri α) (.node t.left t.val (ih t.right (Nat.div (Nat.sub n 1) 2))) (.node (ih t.left (Nat.div n 2)) t.val t.right) (Nat.beq (Nat.mod n 2) 1))
      (.node t.left (some a) t.right) (Nat.beq n 0)) f

/-- A choice by a test. -/
def bsel {α : Type} (c : Bool) (t e : α) : α := Bool.rec (motive := fun _ => α) e t c

/-! lists, by their recursors -/
def nth {α : Type} (l : List α) : Nat → Option α :=
  List.rec (motive := fun _ => Nat → Option α) (fun _ => none) (fun x _ ih n => Nat.rec (motive := fun _ => Option α) (some x) (fun m _ => ih m) n) l
def dropR {α : Type} (l : List α) : Nat → List α :=
  List.rec (motive := fun _ => Nat → List α) (fun _ => []) (fun x t ih n => Nat.rec (motive := fun _ => List α) (x :: t) (fun m _ => ih m) n) l
def takeR {α : Type} (l : List α) : Nat → List α :=
  List.rec (motive := fun _ => Nat → List α) (fun _ => []) (fun x _ ih n => Nat.rec (motive := fun _ => List α) [] (fun m _ => x :: ih m) n) l
def atLeast {α : Type} (l : List α) : Nat → Bool :=
  List.rec (motive := fun _ => Nat → Bool) (fun n => Nat.beq n 0) (fun _ _ ih n => Nat.rec (motive := fun _ => Bool) true (fun m _ => ih m) n) l
def splice {α : Type} (c : List α) (n : Nat) (vs : List α) : List α :=
  List.rec (motive := fun _ => Nat → List α) (fun _ => vs) (fun x t ih n => Nat.rec (motive := fun _ => List α) (vs ++ dropR (x :: t) vs.length) (fun m _ => x :: ih m) n) c n
def allR {α : Type} (p : α → Bool) (l : List α) : Bool :=
  List.rec (motive := fun _ => Bool) true (fun x _ ih => Bool.rec (motive := fun _ => Bool) false ih (p x)) l

def Tri.set {α : Type} (t : Tri α) (n : Nat) (a : α) : Tri α := Tri.setF a (n + 1) t n

/-- A capacity that is not known is written 'unk + k': it is k at least. -/
def unk : Nat := 2 ^ 64

/-- Values without addresses. -/
def leafB : Value → Bool
  | .bool _ | .int _ _ | .string _ | .pointer none | .slice none 0 0 | .map none | .nilFunc | .nilIface => true
  | _ => false

inductive Grow where
  | exact
  | grow (esz : Nat)
  | sish (esz : Nat)
  | ro

def isRo : Grow → Bool
  | .ro => true
  | _ => false

inductive AObj where
  | row (c : List Value) (elem : TypeId) (g : Grow)
  | map (es : List MapEntry) (clock : Nat)
  | iter (map : Option Nat) (since : Nat) (seen : List Nat) (stepped : Nat)
  | loop (state : LoopState) (pending : Option Code) (fn : FuncId) (tm : Tri Value) (params : List Tmp) (assign body : Code) (defers : Nat)
  | deferred (calls : Option (List Deferred))
  | dead

structure Hp where
  m : Tri AObj
  nx : Nat

def Hp.get (h : Hp) (l : Nat) : Option AObj := h.m.get l
def Hp.set (h : Hp) (l : Nat) (o : AObj) : Hp := { h with m := h.m.set l o }
def Hp.new (h : Hp) (o : AObj) : Hp := ⟨h.m.set h.nx o, h.nx + 1⟩

/-- What a computation without memory comes to. -/
def purely {α : Type} (P : Program) : Sem α → Option α
  | .pure a => some a
  | .program k => purely P (k P)
  | _ => none

/-- A tree that holds what a function gives, for the numbers below 2^d - 1. -/
def mkT {α : Type} : Nat → (Nat → Option α) → Tri α
  | 0, _ => .leaf
  | d + 1, f => .node (mkT d fun m => f (2 * m + 1)) (f 0) (mkT d fun m => f (2 * m + 2))

/-- The elements of a list at every second place. -/
def evens {α : Type} (l : List α) : List α :=
  List.rec (motive := fun _ => Bool → List α) (fun _ => []) (fun x _ ih b => Bool.rec (motive := fun _ => List α) (ih true) (x :: ih false) b) l true
def ofList {α : Type} : Nat → List α → Tri α
  | 0, _ => .leaf
  | d + 1, l => .node (ofList d (evens l.tail)) l.head? (ofList d (evens l.tail.tail))

/-- What is asked of a type. -/
structure TyI where
  desc : TypeDesc
  size : Nat
  bytes : Nat
  agg : Bool
  zero : Option Value
  held : Bool
  eqg : Bool

def isAggD : TypeDesc → Bool
  | .struct _ | .array _ _ => true
  | _ => false

def tys (P : Program) : Tri TypeInfo := ofList 11 P.types.toList
def fns (P : Program) : Tri Func := ofList 11 P.funcs.toList

def undOf (P : Program) (d : TypeDesc) : Option TypeDesc :=
  match d with
  | .named _ u => ((tys P).get u).map (·.desc)
  | d => some d
def tyI (P : Program) (t : TypeId) (i : TypeInfo) (d : TypeDesc) : TyI := ⟨d, i.size, i.bytes, isAggD d, i.zero, P.stoodInHeld t, P.eqGuardType P.depth t⟩
def tyOf (P : Program) (t : TypeId) : Option TyI :=
  match (tys P).get t with
  | some i => match undOf P i.desc with
    | some d => some (tyI P t i d)
    | none => none
  | none => none

def ty (P : Program) (t : TypeId) : Option TyI := (mkT 11 (tyOf P)).get t
def fnAt (P : Program) (f : FuncId) : Option Func := (fns P).get f

def und (P : Program) (t : TypeId) : Option TypeDesc := match ty P t with
  | some i => some i.desc
  | none => none
def szOf (P : Program) (t : TypeId) : Option Nat := match ty P t with
  | some i => some i.size
  | none => none
def aggOf (P : Program) (t : TypeId) : Option Bool := match ty P t with
  | some i => some i.agg
  | none => none

def zeroOf (P : Program) (t : TypeId) : Option Value := match ty P t with
  | some i => match i.zero with
    | some z => bsel (z.cells.toList.all leafB) (some z) none
    | none => none
  | none => none

def hpRow (h : Hp) (a : Addr) : Option (List Value × TypeId × Grow) :=
  match h.get a.block, a.spot with
  | some (.row c e g), none => some (c, e, g)
  | _, _ => none

/-- n cells from an address on. -/
def cellsAt (h : Hp) (a : Addr) (n : Nat) : Option (List Value) :=
  match n with
  | 0 => some []
  | _ => match hpRow h a with
    | some (c, _, _) => bsel (atLeast (dropR c a.off) n) (some (takeR (dropR c a.off) n)) none
    | none => none

def aload (P : Program) (h : Hp) (t : TypeId) (a : Addr) : Option Value :=
  match aggOf P t, szOf P t with
  | some true, some n => (cellsAt h a n).map fun l => .agg l.toArray
  | some false, some _ => match hpRow h a with
    | some (c, _, _) => nth c a.off
    | none => none
  | _, _ => none

def plainCellB : Value → Bool
  | .agg _ | .tuple _ => false
  | _ => true

/-- Cells are put at an address; they lie in the row. -/
def putCells (h : Hp) (a : Addr) (vs : List Value) : Option Hp :=
  match vs with
  | [] => some h
  | _ => match hpRow h a with
    | some (c, e, g) => bsel (isRo g) none (bsel (allR plainCellB vs && atLeast c (a.off + vs.length)) (some (h.set a.block (.row (splice c a.off vs) e g))) none)
    | none => none

def astore (P : Program) (h : Hp) (t : TypeId) (a : Addr) (v : Value) : Option Hp :=
  match szOf P t with
  | some n => bsel (Nat.beq v.cells.size n) (putCells h a v.cells.toList) none
  | none => none

inductive ANext where
  | val (v : Value)
  | skip
  | call (t : Target) (args : Array Value)
  | defer (d : Deferred)
  | recover
  | panic (v : Value)

def plainV : Value → Bool
  | .bool _ | .int _ _ | .string _ => true
  | .agg cs => cs.all fun | .bool _ | .int _ _ | .string _ => true | _ => false
  | _ => false

def liveRow (h : Hp) (l : Nat) : Bool :=
  match h.get l with
  | some (.row _ _ .exact) | some (.row _ _ (.grow _)) => true
  | _ => false

def ptrEq (P : Program) (h : Hp) (e : TypeId) (a b : Addr) : Option Bool :=
  match szOf P e, a.spot, b.spot with
  | some (_ + 1), none, none => bsel (liveRow h a.block && liveRow h b.block) (some (Nat.beq a.block b.block && Nat.beq a.off b.off)) none
  | _, _, _ => none

/-- Is one of two values nil, and the other one too? -/
def nilEq (d : TypeDesc) (x y : Value) : Option Bool :=
  match d, x, y with
  | .pointer _, .pointer none, .pointer none => some true
  | .pointer _, .pointer none, .pointer (some _) => some false
  | .pointer _, .pointer (some _), .pointer none => some false
  | .slice _, .slice none _ _, .slice none _ _ => some true
  | .slice _, .slice none _ _, .slice (some _) _ _ => some false
  | .slice _, .slice (some _) _ _, .slice none _ _ => some false
  | .map _ _, .map none, .map none => some true
  | .map _ _, .map none, .map (some _) => some false
  | .map _ _, .map (some _), .map none => some false
  | .func _ _ _, .nilFunc, .nilFunc => some true
  | .func _ _ _, .nilFunc, .func _ _ _ => some false
  | .func _ _ _, .func _ _ _, .nilFunc => some false
  | .interface _, .nilIface, .iface _ _ => some false
  | .interface _, .iface _ _, .nilIface => some false
  | _, _, _ => none

/-- Are two values equal, where addresses may be among them? -/
def aeq (P : Program) (h : Hp) (t : TypeId) (x y : Value) : Option Bool :=
  match und P t, x, y with
  | some (.pointer e), .pointer (some a), .pointer (some b) => ptrEq P h e a b
  | some d, x, y => nilEq d x y
  | none, _, _ => none

def ilt : Int → Int → Bool
  | .ofNat a, .ofNat b => Nat.blt a b
  | .ofNat _, .negSucc _ => false
  | .negSucc _, .ofNat _ => true
  | .negSucc a, .negSucc b => Nat.blt b a
def ieq : Int → Int → Bool
  | .ofNat a, .ofNat b => Nat.beq a b
  | .ofNat _, .negSucc _ => false
  | .negSucc _, .ofNat _ => false
  | .negSucc a, .negSucc b => Nat.beq b a
def kidx : IntKind → Nat
  | .i8 => 0 | .i16 => 1 | .i32 => 2 | .i64 => 3 | .u8 => 4 | .u16 => 5 | .u32 => 6 | .u64 => 7
def keq (j k : IntKind) : Bool := Nat.beq (kidx j) (kidx k)
def topOf : IntKind → Nat
  | .i8 => 128 | .i16 => 32768 | .i32 => 2147483648 | .i64 => 9223372036854775808
  | .u8 => 256 | .u16 => 65536 | .u32 => 4294967296 | .u64 => 18446744073709551616
/-- IntKind.wrap, where nothing is to be done first. -/
def fw (k : IntKind) (n : Int) : Int :=
  match n with
  | .ofNat m => bsel (Nat.blt m (topOf k)) (.ofNat m) (k.wrap (.ofNat m))
  | .negSucc m => bsel (k.signed && Nat.blt m (topOf k)) (.negSucc m) (k.wrap (.negSucc m))

def slowBits (op : BinOp) (k : IntKind) (a b : Int) : Option Value := purely default (Op.intBits op k a b)
def bitsNat (op : BinOp) (a b : Nat) : Option Nat :=
  match op with
  | .and => some (Nat.land a b)
  | .or => some (Nat.lor a b)
  | .xor => some (Nat.xor a b)
  | _ => none
def abits (op : BinOp) (k : IntKind) (a b : Int) : Option Value :=
  match a, b with
  | .ofNat x, .ofNat y => bsel (Nat.blt x (topOf k) && Nat.blt y (topOf k)) (match bitsNat op x y with
    | some z => some (.int k (.ofNat z))
    | none => slowBits op k (.ofNat x) (.ofNat y)) (slowBits op k (.ofNat x) (.ofNat y))
  | a, b => slowBits op k a b

def aquo (k : IntKind) (a b : Int) : Option Value := bsel (ieq b 0) none (some (.int k (fw k (Int.tdiv a b))))
def arem (k : IntKind) (a b : Int) : Option Value := bsel (ieq b 0) none (some (.int k (Int.tmod a b)))

def arith (op : BinOp) (k : IntKind) (a b : Int) : Option Value :=
  match op with
  | .add => some (.int k (fw k (Int.add a b)))
  | .sub => some (.int k (fw k (Int.sub a b)))
  | .mul => some (.int k (fw k (Int.mul a b)))
  | .quo => aquo k a b
  | .rem => arem k a b
  | .eql => some (.bool (ieq a b))
  | .neq => some (.bool (!(ieq a b)))
  | .lss => some (.bool (ilt a b))
  | .leq => some (.bool (!(ilt b a)))
  | .gtr => some (.bool (ilt b a))
  | .geq => some (.bool (!(ilt a b)))
  | .and => abits .and k a b
  | .or => abits .or k a b
  | .xor => abits .xor k a b
  | .andNot => slowBits .andNot k a b
  | _ => none

def slowShl (k : IntKind) (a b : Int) : Option Value := some (.int k (k.wrap (a * 2 ^ min b.toNat k.bits)))
def slowShr (k : IntKind) (a b : Int) : Option Value := some (.int k (a.fdiv (2 ^ min b.toNat k.bits)))
def fastShl (k : IntKind) (a b : Nat) : Option Value := some (.int k (fw k (.ofNat (Nat.shiftLeft a (bsel (Nat.ble b k.bits) b k.bits)))))
def fastShr (k : IntKind) (a b : Nat) : Option Value := some (.int k (.ofNat (Nat.shiftRight a (bsel (Nat.ble b k.bits) b k.bits))))
def ashift (op : BinOp) (k : IntKind) (a b : Int) : Option Value :=
  match a, b with
  | .ofNat x, .ofNat y => match op with
    | .shl => fastShl k x y
    | .shr => fastShr k x y
    | _ => none
  | .negSucc x, .ofNat y => match op with
    | .shl => slowShl k (.negSucc x) (.ofNat y)
    | .shr => slowShr k (.negSucc x) (.ofNat y)
    | _ => none
  | _, _ => none

def isShift : BinOp → Bool
  | .shl | .shr => true
  | _ => false

def astring (op : BinOp) (a b : ByteArray) : Option Value :=
  match op with
  | .add => bsel (Nat.ble (a.size + b.size) (2 ^ 40)) (some (.string (a ++ b))) none
  | .eql => some (.bool (a.toList == b.toList))
  | .neq => some (.bool (!(a.toList == b.toList)))
  | _ => none

def aggPart (P : Program) (t : TypeId) (cs : List Value) (off : Nat) : Option Value :=
  match ty P t with
  | some i => bsel i.agg (some (.agg ((cs.drop off).take i.size).toArray)) cs[off]?
  | none => none

mutual
/-- Equality of structs and of what they hold, no addresses among it. -/
def eqDeep (P : Program) : Nat → TypeId → Value → Value → Option Bool
  | 0, _, _, _ => none
  | d + 1, t, x, y =>
    match ty P t with
    | some i =>
      match i.desc, x, y with
      | .bool, .bool a, .bool b => some (a == b)
      | .int _, .int k a, .int k' b => bsel (keq k k') (some (ieq a b)) none
      | .string, .string a, .string b => some (a.toList == b.toList)
      | .struct fs, .agg xs, .agg ys => bsel i.held none (eqFields P d fs.toList xs.toList ys.toList)
      | _, _, _ => none
    | none => none
def eqFields (P : Program) : Nat → List Field → List Value → List Value → Option Bool
  | 0, _, _, _ => none
  | _ + 1, [], _, _ => some true
  | d + 1, f :: fs, xs, ys =>
    match aggPart P f.type xs f.offset, aggPart P f.type ys f.offset with
    | some a, some b => bsel (f.name != "_") (match eqDeep P d f.type a b with
      | some true => eqFields P d fs xs ys
      | r => r) none
    | _, _ => none
end

def fieldNamed (P : Program) (t : TypeId) : Bool :=
  match ty P t with
  | some i => match i.desc with
    | .struct _ => !i.eqg
    | _ => false
  | none => false

def eqNeq (op : BinOp) (r : Option Bool) : Option Value :=
  match op, r with
  | .eql, some r => some (.bool r)
  | .neq, some r => some (.bool (!r))
  | _, _ => none

def isConst : Operand → Bool
  | .const _ => true
  | _ => false

def abin (P : Program) (h : Hp) (op : BinOp) (t : TypeId) (cn : Bool) (a b : Value) : Option Value :=
  match a, b with
  | .int k x, .int k' y => bsel (isShift op) (ashift op k x y) (bsel (keq k k') (arith op k x y) none)
  | .string x, .string y => astring op x y
  | .bool x, .bool y => match und P t with
    | some .bool => eqNeq op (some (x == y))
    | _ => none
  | .agg xs, .agg ys => bsel (fieldNamed P t) (eqNeq op (eqDeep P 100 t (.agg xs) (.agg ys))) none
  | .nilIface, .nilIface => match und P t with
    | some (.interface _) => bsel cn (eqNeq op (some true)) none
    | _ => none
  | a, b => eqNeq op (aeq P h t a b)

def abuild (P : Program) (t : TypeId) (parts : List (Nat × Value)) : Option Value :=
  match ty P t with
  | some i => match zeroOf P t with
    | some z => match i.desc with
      | .struct fs => bsel (fs.toList.all fun f => (szOf P f.type).isSome) (match Instr.fill (fun j => match fs[j]? with
          | some f => (szOf P f.type).map fun n => (f.offset, n)
          | none => none) z.cells parts with
        | some cs => some (.agg cs)
        | none => none) none
      | .array _ e => match szOf P e with
        | some n => match Instr.fill (fun j => some (j * n, n)) z.cells parts with
          | some cs => some (.agg cs)
          | none => none
        | none => none
      | _ => none
    | none => none
  | none => none

def afield (P : Program) (t : TypeId) (x : Value) (f : Nat) : Option Value :=
  match und P t, x with
  | some (.struct fs), .agg cs => match fs[f]? with
    | some fd => aggPart P fd.type cs.toList fd.offset
    | none => none
  | _, _ => none

def aindex (P : Program) (t : TypeId) (x ix : Value) : Option Value :=
  match und P t, x, ix with
  | some (.array n e), .agg cs, .int _ (.ofNat i) => bsel (Nat.blt i n) (match szOf P e with
    | some s => aggPart P e cs.toList (Nat.mul i s)
    | none => none) none
  | some .string, .string s, .int _ (.ofNat i) => match s.data.toList[i]? with
    | some b => some (.int .u8 b.toNat)
    | none => none
  | _, _, _ => none

def aiface (P : Program) (t : TypeId) (x : Value) : Option Value :=
  match und P t with
  | some (.interface _) => none
  | some _ => some (.iface t x)
  | none => none

def aassert (P : Program) (t : TypeId) (x : Value) (ok : Bool) : Option Value :=
  match und P t, x with
  | some (.interface _), _ => none
  | some _, .iface u v => bsel (Nat.beq u t) (some (bsel ok (.tuple #[v, .bool true]) v)) none
  | _, _ => none

def aextract : Value → Nat → Option Value
  | .tuple vs, n => vs.toList[n]?
  | _, _ => none

def aunary (op : UnOp) (x : Value) : Option Value :=
  match op, x with
  | .neg, .int k n => some (.int k (fw k (Int.sub 0 n)))
  | .not, .bool b => some (.bool (!b))
  | .xor, .int k n => slowBits .xor k (if k.signed then -1 else k.max) n
  | _, _ => none

def asNat : Value → Option Nat
  | .int _ (.ofNat n) => some n
  | _ => none

def optNat (d : Nat) : Option Value → Option Nat
  | none => some d
  | some v => asNat v

/-- The cells of a string or a slice, n of them, each of so many cells. -/
def srcCells (h : Hp) (size : Nat) : Value → Option (List Value)
  | .slice none _ _ => some []
  | .slice (some a) n _ => cellsAt h a (n * size)
  | .string s => bsel (Nat.beq size 1) (some (s.data.toList.map fun b => .int .u8 b.toNat)) none
  | _ => none

def srcLen : Value → Option Nat
  | .slice _ n _ => some n
  | .string s => some s.size
  | _ => none

def growsBy : Grow → Nat → Bool
  | .exact, _ => false
  | .ro, _ => false
  | .grow s, n => Nat.beq s n
  | .sish s, n => Nat.beq s n

def apRow (h : Hp) (elem need : Nat) (g : Grow) (c : List Value) : Value × Hp :=
  (.slice (some ⟨h.nx, 0, none⟩) need (unk + need), h.new (.row c elem g))

def apUnk (h : Hp) (elem size len n : Nat) (base : Option Addr) (s : Value) (new : List Value) : Option (Value × Hp) :=
  bsel (Nat.beq n 0) (some (s, h)) (match base with
    | some a => match hpRow h a with
      | some (c, e, g) => bsel (Nat.beq c.length (a.off + len * size) && growsBy g size && Nat.beq e elem)
          (some ((apRow h elem (len + n) g (c.drop a.off ++ new)).1, (apRow h elem (len + n) g (c.drop a.off ++ new)).2.set a.block .dead)) none
      | none => none
    | none => none)

def apKnown (h : Hp) (elem size len n cap : Nat) (base : Option Addr) (s : Value) (new : List Value) : Option (Value × Hp) :=
  bsel (Nat.ble (len + n) cap)
    (match base with
     | some a => match putCells h (a.add (len * size)) new with
       | some h' => some (.slice (some a) (len + n) cap, h')
       | none => none
     | none => bsel (Nat.beq n 0) (some (s, h)) none)
    (match srcCells h size s with
     | some old => some (apRow h elem (len + n) (.grow size) (old ++ new))
     | none => none)

def aappend (P : Program) (h : Hp) (sType : TypeId) (s x : Value) : Option (Value × Hp) :=
  match und P sType with
  | some (.slice elem) =>
    match ty P elem, zeroOf P elem, srcLen x, s with
    | some i, some z, some n, .slice base len cap =>
      match srcCells h i.size x with
      | some new => bsel (Nat.ble (Nat.mul (len + n) i.bytes) 140737488355328 && Nat.ble (len + n) 4611686018427387904 && Nat.beq z.cells.size i.size && new.all plainCellB)
          (bsel (Nat.ble unk cap) (apUnk h elem i.size len n base s new) (apKnown h elem i.size len n cap base s new)) none
      | none => none
    | _, _, _, _ => none
  | _ => none

def aslice (P : Program) (hp : Hp) (t : TypeId) (x : Value) (lo hi mx : Option Value) : Option Value :=
  match mx with
  | some _ => none
  | none =>
  match und P t, x with
  | some (.array n elem), .pointer (some a) =>
    match szOf P elem, optNat n hi, optNat 0 lo with
    | some size, some h, some l => bsel (Nat.ble h n && Nat.ble l h && Nat.blt n unk) (some (.slice (some (bsel (Nat.beq n l) a (a.add (l * size)))) (h - l) (n - l))) none
    | _, _, _ => none
  | some .string, .string s =>
    match optNat s.size hi, optNat 0 lo with
    | some h, some l => bsel (Nat.ble h s.size && Nat.ble l h) (some (.string (s.extract l h))) none
    | _, _ => none
  | some (.slice elem), .slice a len cap =>
    match szOf P elem, optNat len hi, optNat 0 lo with
    | some size, some h, some l =>
      bsel (Nat.ble unk cap)
        (match a with
         | some a => match hpRow hp a with
           | some (_, _, g) => bsel (Nat.ble h (cap - unk) && Nat.ble l h && growsBy g size) (some (.slice (some (a.add (l * size))) (h - l) (unk + (cap - unk - l)))) none
           | none => none
         | none => none)
        (bsel (Nat.ble h cap && Nat.ble l h) (some (.slice (bsel (Nat.beq cap l) a (a.map (·.add (l * size)))) (h - l) (cap - l))) none)
    | _, _, _ => none
  | _, _ => none

def aindexAddr (P : Program) (t : TypeId) (x index : Value) : Option Value :=
  match asNat index, und P t, x with
  | some i, some (.array len elem), .pointer (some a) =>
    match szOf P elem with
    | some size => bsel (Nat.blt i len) (some (.pointer (some (a.add (i * size))))) none
    | none => none
  | some i, some (.slice elem), .slice (some a) len _ =>
    match szOf P elem with
    | some size => bsel (Nat.blt i len) (some (.pointer (some (a.add (i * size))))) none
    | none => none
  | _, _, _ => none

def afieldAddr (P : Program) (s : TypeId) (x : Value) (f : Nat) : Option Value :=
  match und P s, x with
  | some (.struct fs), .pointer (some a) =>
    match fs[f]? with
    | some fd => match szOf P fd.type with
      | some (_ + 1) => some (.pointer (some (a.add fd.offset)))
      | _ => none
    | none => none
  | _, _ => none

def amake (P : Program) (h : Hp) (t : TypeId) (len cap : Value) : Option (Value × Hp) :=
  match und P t, asNat len, asNat cap with
  | some (.slice elem), some l, some c =>
    match ty P elem, zeroOf P elem with
    | some i, some z => bsel (Nat.ble l c && Nat.ble (c * (i.bytes + 1)) (2 ^ 30) && Nat.beq z.cells.size i.size)
          (some (.slice (some ⟨h.nx, 0, none⟩) l c, h.new (.row ((List.replicate c z.cells.toList).flatten) elem .exact))) none
    | _, _ => none
  | _, _, _ => none

def keyFind (k : Value) : List MapEntry → Nat → Option (Option (Nat × Value))
  | [], _ => some none
  | e :: es, i =>
    match k, e.key with
    | .int j a, .int j' b => bsel (keq j j') (bsel (ieq a b) (some (some (i, e.val))) (keyFind k es (Nat.add i 1))) none
    | _, _ => none

def intKey (P : Program) (k : TypeId) : Bool :=
  match und P k with
  | some (.int _) => true
  | _ => false

def amapOf (h : Hp) : Value → Option (List MapEntry)
  | .map none => some []
  | .map (some r) => match h.get r with
    | some (.map es _) => some es
    | _ => none
  | _ => none

def alookup (P : Program) (h : Hp) (t : TypeId) (m k : Value) (ok : Bool) : Option Value :=
  match und P t with
  | some (.map kt et) =>
    bsel (intKey P kt)
      (match amapOf h m with
       | some es => match keyFind k es 0 with
         | some (some (_, v)) => some (bsel ok (.tuple #[v, .bool true]) v)
         | some none => match zeroOf P et with
           | some z => some (bsel ok (.tuple #[z, .bool false]) z)
           | none => none
         | none => none
       | none => none) none
  | _ => none

def setAt {α : Type} : List α → Nat → α → List α
  | [], _, _ => []
  | _ :: l, 0, y => y :: l
  | x :: l, n + 1, y => x :: setAt l n y

def amapPut (P : Program) (h : Hp) (t : TypeId) (m k v : Value) : Option Hp :=
  match und P t, m with
  | some (.map kt _), .map (some r) =>
    bsel (intKey P kt)
      (match h.get r with
       | some (.map es clock) => match keyFind k es 0 with
         | some (some (i, _)) => match es[i]? with
           | some e => some (h.set r (.map (setAt es i { e with key := k, val := v }) clock))
           | none => none
         | some none => some (h.set r (.map (es ++ [{ key := k, val := v, born := clock }]) (clock + 1)))
         | none => none
       | _ => none) none
  | _, _ => none

def amapDel (P : Program) (h : Hp) (t : TypeId) (m k : Value) : Option Hp :=
  match und P t, m with
  | some (.map kt _), .map none => bsel (intKey P kt) (some h) none
  | some (.map kt _), .map (some r) =>
    bsel (intKey P kt)
      (match h.get r with
       | some (.map es clock) => match keyFind k es 0 with
         | some (some (i, _)) => some (h.set r (.map (es.eraseIdx i) clock))
         | some none => some h
         | none => none
       | _ => none) none
  | _, _ => none

def arange (P : Program) (h : Hp) (t : TypeId) (x : Value) : Option (Value × Hp) :=
  match und P t, x with
  | some (.map _ _), .map none => some (.pointer (some ⟨h.nx, 0, none⟩), h.new (.iter none 0 [] 0))
  | some (.map _ _), .map (some m) => match h.get m with
    | some (.map _ clock) => some (.pointer (some ⟨h.nx, 0, none⟩), h.new (.iter (some m) clock [] clock))
    | _ => none
  | _, _ => none

/-- The next entry of a map, where there is one choice alone. -/
def anext (h : Hp) (it : Value) (isString : Bool) : Option (Value × Hp) :=
  match it, isString with
  | .pointer (some ⟨r, 0, _⟩), false =>
    match h.get r with
    | some (.iter none _ _ _) => some (.tuple #[.bool false], h)
    | some (.iter (some m) since seen stepped) =>
      match h.get m with
      | some (.map es clock) =>
        bsel (Nat.beq clock since && Nat.beq stepped since && es.all fun e => Nat.blt e.born since)
          (match es.filter fun e => !seen.contains e.born with
           | [] => some (.tuple #[.bool false], h)
           | [e] => some (.tuple #[.bool true, e.key, e.val], h.set r (.iter (some m) since (seen ++ [e.born]) clock))
           | _ => none) none
      | _ => none
    | _ => none
  | _, _ => none

def aentry (h : Hp) (it : Value) : Option Value :=
  match it with
  | .pointer (some ⟨r, 0, _⟩) =>
    match h.get r with
    | some (.iter (some m) _ seen stepped) =>
      match h.get m, seen.getLast? with
      | some (.map es clock), some stamp => bsel (Nat.beq clock stepped)
          (match es.find? (fun e => Nat.beq e.born stamp) with
           | some e => some (.tuple #[e.key, e.val])
           | none => none) none
      | _, _ => none
    | _ => none
  | _ => none

def bytesOfCells : List Value → Option (List UInt8)
  | [] => some []
  | .int .u8 n :: l => (bytesOfCells l).map (UInt8.ofNat n.toNat :: ·)
  | _ => none

def aconvert (P : Program) (h : Hp) (src dst : TypeId) (x : Value) : Option (Value × Hp) :=
  match und P src, und P dst, x with
  | some .string, some (.slice e), .string s =>
    match und P e with
    | some (.int .u8) => bsel (Nat.ble s.size 4611686018427387904) (some (.slice (some ⟨h.nx, 0, none⟩) s.size (unk + s.size), h.new (.row (s.data.toList.map fun b => .int .u8 b.toNat) e (.sish 1)))) none
    | _ => none
  | some (.slice e), some .string, .slice none _ _ =>
    match und P e with
    | some (.int .u8) => some (.string .empty, h)
    | _ => none
  | some (.slice e), some .string, .slice (some a) n _ =>
    match und P e with
    | some (.int .u8) => match cellsAt h a n with
      | some l => match bytesOfCells l with
        | some bs => some (.string ⟨bs.toArray⟩, h)
        | none => none
      | none => none
    | _ => none
  | some (.pointer t), some .unsafePointer, .pointer (some a) =>
    match hpRow h a, szOf P t with
    | some (c, _, .exact), some (_ + 1) => bsel (Nat.blt a.off c.length) (some (.pointer (some a), h)) none
    | _, _ => none
  | some .unsafePointer, some (.pointer u), .pointer (some a) =>
    match hpRow h a, szOf P u with
    | some (c, e, .exact), some (n + 1) => bsel (Nat.beq e u && Nat.beq a.off 0 && Nat.ble (n + 1) c.length) (some (.pointer (some a), h)) none
    | _, _ => none
  | some _, some (.int k), .int _ n => some (.int k (fw k n), h)
  | some _, some .string, .string s => some (.string s, h)
  | _, _, _ => none

def opt1 (h : Hp) : Option Value → Option (ANext × Hp)
  | some v => some (.val v, h)
  | none => none

def amax : List Value → Option Value
  | [.int k a, .int k' b] => bsel (keq k k') (some (.int k (bsel (ilt a b) b a))) none
  | _ => none

def amin : List Value → Option Value
  | [.int k a, .int k' b] => bsel (keq k k') (some (.int k (bsel (ilt b a) b a))) none
  | _ => none

def bLen (P : Program) (h : Hp) (ts : Array TypeId) (args : List Value) : Option (ANext × Hp) :=
  match (ts[0]?).bind (und P), args with
  | some (.map _ _), [.map none] => some (.val (.int .i64 0), h)
  | some (.map _ _), [.map (some r)] => match h.get r with
    | some (.map es _) => some (.val (.int .i64 (.ofNat es.length)), h)
    | _ => none
  | some .string, [.string s] => some (.val (.int .i64 (.ofNat s.size)), h)
  | some (.array n _), [_] => some (.val (.int .i64 (.ofNat n)), h)
  | some (.pointer a), [_] => match und P a with
      | some (.array n _) => some (.val (.int .i64 (.ofNat n)), h)
      | _ => none
  | some (.slice _), [.slice _ n _] => some (.val (.int .i64 (.ofNat n)), h)
  | _, _ => none
def bCap (P : Program) (h : Hp) (ts : Array TypeId) (args : List Value) : Option (ANext × Hp) :=
  match (ts[0]?).bind (und P), args with
  | some (.slice _), [.slice _ _ n] => bsel (Nat.blt n unk) (some (.val (.int .i64 (.ofNat n)), h)) none
  | _, _ => none
def bAppend (P : Program) (h : Hp) (ts : Array TypeId) (args : List Value) : Option (ANext × Hp) :=
  match args, ts[0]? with
  | [s, x], some t => bsel (match ts[1]? with
      | some u => match und P u with
        | some (.slice _) => true
        | some .string => true
        | _ => false
      | none => true) (match aappend P h t s x with
    | some (v, h) => some (.val v, h)
    | none => none) none
  | _, _ => none
def bCopy (P : Program) (h : Hp) (ts : Array TypeId) (args : List Value) : Option (ANext × Hp) :=
  match (ts[0]?).bind (und P), args with
  | some (.slice e), [.slice _ dl _, s] => match szOf P e, srcLen s with
    | some _, some sl => bsel (Nat.beq (min sl dl) 0) (some (.val (.int .i64 0), h)) none
    | _, _ => none
  | _, _ => none
def bDelete (P : Program) (h : Hp) (ts : Array TypeId) (args : List Value) : Option (ANext × Hp) :=
  match args, ts[0]? with
  | [m, k], some t => match amapDel P h t m k with
    | some h => some (.val (.tuple #[]), h)
    | none => none
  | _, _ => none
def bPanic (h : Hp) (args : List Value) : Option (ANext × Hp) :=
  match args with
  | [.iface t v] => some (.panic (.iface t v), h)
  | _ => none
def bSliceData (h : Hp) (args : List Value) : Option (ANext × Hp) :=
  match args with
  | [.slice none _ _] => some (.val (.pointer none), h)
  | [.slice (some a) _ c] => bsel (Nat.blt unk c || (Nat.blt 0 c && Nat.blt c unk)) (some (.val (.pointer (some a)), h)) none
  | _ => none
def bString2 (P : Program) (h : Hp) (ts : Array TypeId) (a : Addr) (k : Nat) : Option (ANext × Hp) :=
  match (ts[0]?).bind (und P) with
  | some (.pointer u) => match und P u, szOf P u, hpRow h a with
    | some (.int .u8), some 1, some (_, e, g) => bsel (isRo g) none <| match cellsAt h a k with
      | some l => match bytesOfCells l with
        | some bs => bsel (Nat.beq e u && Nat.ble k 1099511627776) (some (.val (.string ⟨bs.toArray⟩), h.set a.block .dead)) none
        | none => none
      | none => none
    | _, _, _ => none
  | _ => none
def bString (P : Program) (h : Hp) (ts : Array TypeId) (args : List Value) : Option (ANext × Hp) :=
  match args with
  | [.pointer p, .int _ (.ofNat n)] =>
    bsel (Nat.beq n 0) (some (.val (.string .empty), h)) (match p with
      | some a => bString2 P h ts a n
      | none => none)
  | _ => none

def abuiltin (P : Program) (h : Hp) (b : Builtin) (ts : Array TypeId) (args : List Value) : Option (ANext × Hp) :=
  match b with
  | .len => bLen P h ts args
  | .cap => bCap P h ts args
  | .append => bAppend P h ts args
  | .copy => bCopy P h ts args
  | .delete => bDelete P h ts args
  | .max => opt1 h (amax args)
  | .min => opt1 h (amin args)
  | .panic => bPanic h args
  | .recover => some (.recover, h)
  | .unsafeSliceData => bSliceData h args
  | .unsafeString => bsel (ts[0]?).isSome (bString P h ts args) none
  | _ => none

def opt2 : Option (Value × Hp) → Option (ANext × Hp)
  | some (v, h) => some (.val v, h)
  | none => none

def opt3 : Option Hp → Option (ANext × Hp)
  | some h => some (.skip, h)
  | none => none


def mapOps (ρ : Operand → Value) : List Operand → List Value
  | [] => []
  | x :: l => ρ x :: mapOps ρ l
abbrev AOp := (Operand → Value) → Hp → Option (ANext × Hp)

def aMove (x : Operand) : AOp := fun ρ h => some (.val (ρ x), h)
def aPick (c a b : Operand) : AOp := fun ρ h => match ρ c with
  | .bool t => some (.val (bsel t (ρ a) (ρ b)), h)
  | _ => none
def aNewRow (h : Hp) (c : List Value) (e : TypeId) : Option (ANext × Hp) := some (.val (.pointer (some ⟨h.nx, 0, none⟩)), h.new (.row c e .exact))
def aAlloc (P : Program) (e : TypeId) : AOp := fun _ h => match zeroOf P e with
  | some z => aNewRow h z.cells.toList e
  | none => none
def aBox (e : TypeId) (x : Operand) : AOp := fun ρ h => aNewRow h (ρ x).cells.toList e
def mapParts (ρ : Operand → Value) : List (Nat × Operand) → List (Nat × Value)
  | [] => []
  | (i, x) :: l => (i, ρ x) :: mapParts ρ l
def aBuild (P : Program) (t : TypeId) (parts : Array (Nat × Operand)) : AOp := fun ρ h => opt1 h (abuild P t (mapParts ρ parts.toList))
def aBuildSlice2 (h : Hp) (e : TypeId) (len size : Nat) (z : Value) (parts : List (Nat × Value)) : Option (ANext × Hp) :=
  match Instr.fill (fun i => some (i * size, size)) (bsel (Nat.beq (Nat.mul len size) 0) #[] (List.replicate len z.cells.toList).flatten.toArray) parts with
  | some cells => bsel (Nat.ble (Nat.mul len size) 16777216 && Nat.beq z.cells.size size && Nat.blt len unk) (some (.val (.slice (some ⟨h.nx, 0, none⟩) len len), h.new (.row cells.toList e .exact))) none
  | none => none
def aBuildSlice (P : Program) (t : TypeId) (len : Nat) (parts : Array (Nat × Operand)) : AOp := fun ρ h =>
  match und P t with
  | some (.slice e) => match szOf P e, zeroOf P e with
    | some size, some z => aBuildSlice2 h e len size z (mapParts ρ parts.toList)
    | _, _ => none
  | _ => none
def aLoad (P : Program) (t : TypeId) (a : Operand) : AOp := fun ρ h => match ρ a with
  | .pointer (some a) => opt1 h (aload P h t a)
  | _ => none
def aStore (P : Program) (t : TypeId) (a x : Operand) : AOp := fun ρ h => match ρ a with
  | .pointer (some a) => opt3 (astore P h t a (ρ x))
  | _ => none
def aNilCheck (x : Operand) : AOp := fun ρ h => match ρ x with
  | .pointer (some a) => some (.val (.pointer (some a)), h)
  | .iface t v => some (.val (.iface t v), h)
  | .func (.func f) first cap => some (.val (.func (.func f) first cap), h)
  | _ => none
def aBin (P : Program) (op : BinOp) (t : TypeId) (x y : Operand) : AOp := fun ρ h => opt1 h (abin P h op t (isConst x || isConst y) (ρ x) (ρ y))
def aUn (op : UnOp) (x : Operand) : AOp := fun ρ h => opt1 h (aunary op (ρ x))
def aConvert (P : Program) (src dst : TypeId) (x : Operand) : AOp := fun ρ h => opt2 (aconvert P h src dst (ρ x))
def aMkIface (P : Program) (t : TypeId) (x : Operand) : AOp := fun ρ h => opt1 h (aiface P t (ρ x))
def aMkFunc (fn : Fn) (first captured : Array Operand) : AOp := fun ρ h => match fn with
  | .yield _ => none
  | fn => some (.val (.func fn (mapOps ρ first.toList).toArray (mapOps ρ captured.toList).toArray), h)
def aMkMap (r : Option Operand) : AOp := fun _ h => match r with
  | none => some (.val (.map (some h.nx)), h.new (.map [] 0))
  | some _ => none
def aMkSlice (P : Program) (t : TypeId) (l c : Operand) : AOp := fun ρ h => opt2 (amake P h t (ρ l) (ρ c))
def aSlice (P : Program) (t : TypeId) (x : Operand) (lo hi mx : Option Operand) : AOp := fun ρ h => opt1 h (aslice P h t (ρ x) (lo.map ρ) (hi.map ρ) (mx.map ρ))
def aFieldAddr (P : Program) (t : TypeId) (x : Operand) (f : Nat) : AOp := fun ρ h => opt1 h (afieldAddr P t (ρ x) f)
def aField (P : Program) (t : TypeId) (x : Operand) (f : Nat) : AOp := fun ρ h => opt1 h (afield P t (ρ x) f)
def aIndexAddr (P : Program) (t : TypeId) (x ix : Operand) : AOp := fun ρ h => opt1 h (aindexAddr P t (ρ x) (ρ ix))
def aIndex (P : Program) (t : TypeId) (x ix : Operand) : AOp := fun ρ h => opt1 h (aindex P t (ρ x) (ρ ix))
def aLookup (P : Program) (t : TypeId) (x ix : Operand) (ok : Bool) : AOp := fun ρ h => opt1 h (alookup P h t (ρ x) (ρ ix) ok)
def aUpdate (P : Program) (t : TypeId) (m k x : Operand) : AOp := fun ρ h => opt3 (amapPut P h t (ρ m) (ρ k) (ρ x))
def aRange (P : Program) (t : TypeId) (x : Operand) : AOp := fun ρ h => opt2 (arange P h t (ρ x))
def aNext (it : Operand) (isString : Bool) : AOp := fun ρ h => opt2 (anext h (ρ it) isString)
def aEntry (it : Operand) : AOp := fun ρ h => opt1 h (aentry h (ρ it))
def aAssert (P : Program) (x : Operand) (t : TypeId) (ok : Bool) : AOp := fun ρ h => opt1 h (aassert P t (ρ x) ok)
def aExtract (x : Operand) (ix : Nat) : AOp := fun ρ h => opt1 h (aextract (ρ x) ix)
def aCall (P : Program) (c : Go.Call) : AOp := fun ρ h => match c.callee with
  | .builtin b => abuiltin P h b c.argTypes (mapOps ρ c.args.toList)
  | .invoke recv name => some (.call (.fn (.method name) #[]) (ρ recv :: mapOps ρ c.args.toList).toArray, h)
  | .value f => match ρ f with
    | .func fn first captured => some (.call (.fn fn captured) (first.toList ++ mapOps ρ c.args.toList).toArray, h)
    | _ => none
def aDefer (c : Go.Call) : AOp := fun ρ h => match c.callee with
  | .value f => match ρ f with
    | .func fn first captured => some (.defer ⟨.fn fn captured, (first.toList ++ mapOps ρ c.args.toList).toArray⟩, h)
    | _ => none
  | _ => none
def aPanic (x : Operand) : AOp := fun ρ h => match ρ x with
  | .iface t v => some (.panic (.iface t v), h)
  | _ => none
def aNone : AOp := fun _ _ => none

def aopOf (P : Program) (op : Op) : AOp :=
  match op with
  | .move x => aMove x
  | .assign x => aMove x
  | .pick c a b => aPick c a b
  | .alloc e => aAlloc P e
  | .box e x => aBox e x
  | .build t parts => aBuild P t parts
  | .buildSlice t len parts => aBuildSlice P t len parts
  | .load t a => aLoad P t a
  | .store t a x => aStore P t a x
  | .nilCheck x => aNilCheck x
  | .binOp op t x y _ => aBin P op t x y
  | .unOp op _ x => aUn op x
  | .convert src dst x => aConvert P src dst x
  | .makeInterface t x => aMkIface P t x
  | .makeFunc fn first captured => aMkFunc fn first captured
  | .makeMap _ r => aMkMap r
  | .makeSlice t l c => aMkSlice P t l c
  | .slice t x lo hi mx => aSlice P t x lo hi mx
  | .fieldAddr s x f => aFieldAddr P s x f
  | .field t x f => aField P t x f
  | .indexAddr t x ix => aIndexAddr P t x ix
  | .index t x ix => aIndex P t x ix
  | .lookup t x ix ok => aLookup P t x ix ok
  | .mapUpdate t m k x => aUpdate P t m k x
  | .insert t m k x => aUpdate P t m k x
  | .range t x => aRange P t x
  | .next it isString => aNext it isString
  | .entry it => aEntry it
  | .typeAssert x _ t ok => aAssert P x t ok
  | .extract t ix => aExtract t ix
  | .call c => aCall P c
  | .defer c => aDefer c
  | .panic x => aPanic x
  | _ => aNone

def aop (P : Program) (ρ : Operand → Value) (o : Oper) (h : Hp) : Option (ANext × Hp) := aopOf P o.op ρ h

/-! control -/
inductive EExit where
  | normal
  | exit (id : Nat)
  | goto (l : Nat)
  | ret
  | panic (chain : List PanicEntry)

structure Fs where
  tm : Tri Value
  df : List Deferred
  h : Hp
  pn : Option (List PanicEntry)

structure Ctx where
  fn : FuncId
  round : Option Nat
  dk : Bool

inductive CRes where
  | ret (v : Value)
  | panic (chain : List PanicEntry)

def tget (tm : Tri Value) (t : Tmp) : Value := (tm.get t).getD undef
def evalT (tm : Tri Value) : Operand → Value
  | .tmp t => tget tm t
  | .const v => v
  | .global g => .pointer (some ⟨g, 0, none⟩)
  | .func f => .func (.func f) #[] #[]
def tput (tm : Tri Value) : Option Tmp → Value → Tri Value
  | some d, v => tm.set d v
  | none, _ => tm

def yieldedT (ops : Array Oper) (tm : Tri Value) (j : Nat) : Option Bool :=
  match (ops[j]?).bind (·.dst) with
  | some d => match tm.get d with
    | some (.bool b) => some b
    | _ => none
  | none => none

abbrev Inv := Option (List PanicEntry) → Bool → Target → Array Value → Hp → Option (CRes × Hp × Option (List PanicEntry))

abbrev SRes := Option (Option (List PanicEntry) × Fs)
def sVal (d : Option Tmp) (s : Fs) (v : Value) (h : Hp) : SRes := some (none, ⟨tput s.tm d v, s.df, h, s.pn⟩)
def sCall (inv : Inv) (d : Option Tmp) (s : Fs) (t : Target) (args : Array Value) (h : Hp) : SRes :=
  match inv none false t args h with
  | some (.ret v, h, _) => some (none, ⟨tput s.tm d v, s.df, h, s.pn⟩)
  | some (.panic ch, h, _) => some (some ch, ⟨s.tm, s.df, h, s.pn⟩)
  | none => none
def sDefer (ctx : Ctx) (t : Option Tmp) (s : Fs) (d : Deferred) (h : Hp) : SRes :=
  match ctx.round with
  | none => some (none, ⟨tput s.tm t undef, d :: s.df, h, s.pn⟩)
  | some _ => none
def sRecover (ctx : Ctx) (t : Option Tmp) (s : Fs) (h : Hp) : SRes :=
  match ctx.round, ctx.dk, s.pn with
  | none, true, some ({ v, recovered := false, goexit := false } :: older) => some (none, ⟨tput s.tm t v, s.df, h, some ({ v, recovered := true } :: older)⟩)
  | none, _, _ => some (none, ⟨tput s.tm t .nilIface, s.df, h, s.pn⟩)
  | some _, _, _ => none
def sPanic (s : Fs) (v : Value) (h : Hp) : SRes := some (some [{ v, recovered := false }], ⟨s.tm, s.df, h, s.pn⟩)
def stepN (inv : Inv) (ctx : Ctx) (d : Option Tmp) (s : Fs) (n : ANext) (h : Hp) : SRes :=
  match n with
  | .val v => sVal d s v h
  | .skip => sVal d s undef h
  | .call t args => sCall inv d s t args h
  | .defer x => sDefer ctx d s x h
  | .recover => sRecover ctx d s h
  | .panic v => sPanic s v h
def stepO (P : Program) (inv : Inv) (ctx : Ctx) (o : Oper) (s : Fs) : SRes :=
  match aop P (evalT s.tm) o s.h with
  | some (n, h) => bsel (Nat.ble s.h.nx h.nx) (stepN inv ctx o.dst s n h) none
  | none => none

def skipO (o : Oper) (s : Fs) : Fs := { s with tm := tput s.tm o.dst undef }

def runSeq (P : Program) (inv : Inv) (ctx : Ctx) (ops : Array Oper) : List Oper → Fs → Option (Option (List PanicEntry) × Fs)
  | [], s => some (none, s)
  | o :: rest, s =>
    bsel (Region.wanted o (yieldedT ops s.tm))
      (match stepO P inv ctx o s with
       | some (none, s') => runSeq P inv ctx ops rest s'
       | r => r)
      (runSeq P inv ctx ops rest (skipO o s))

def isEff : Op → Bool
  | .store .. | .entryStore .. | .mapUpdate .. | .insert .. | .next .. | .defer _ | .panic _ | .mapEntry .. | .ready _ | .range .. => true
  | .call c => match c.callee with
    | .builtin .len | .builtin .cap | .builtin .max | .builtin .min | .builtin .unsafeSliceData => false
    | _ => true
  | _ => false

def isRead : Op → Bool
  | .load .. | .lookup .. | .entry _ | .slice .. => true
  | .binOp .. | .convert .. => true
  | .call c => match c.callee with
    | .builtin .len => true
    | _ => false
  | _ => false

mutual
def veq : Nat → Value → Value → Bool
  | 0, _, _ => false
  | _ + 1, .bool a, .bool b => a == b
  | _ + 1, .int j a, .int k b => decide (j = k) && decide (a = b)
  | _ + 1, .string a, .string b => decide (a.data.toList = b.data.toList)
  | _ + 1, .pointer a, .pointer b => decide (a = b)
  | _ + 1, .slice a n c, .slice b m d => decide (a = b) && Nat.beq n m && Nat.beq c d
  | _ + 1, .map a, .map b => decide (a = b)
  | _ + 1, .nilFunc, .nilFunc => true
  | _ + 1, .nilIface, .nilIface => true
  | n + 1, .iface t v, .iface u w => Nat.beq t u && veq n v w
  | n + 1, .func f a c, .func g b d => decide (f = g) && veqs n a.toList b.toList && veqs n c.toList d.toList
  | n + 1, .agg a, .agg b => veqs n a.toList b.toList
  | n + 1, .tuple a, .tuple b => veqs n a.toList b.toList
  | _ + 1, _, _ => false
def veqs : Nat → List Value → List Value → Bool
  | _, [], [] => true
  | 0, _, _ => false
  | n + 1, a :: as, b :: bs => veq n a b && veqs n as bs
  | _ + 1, _, _ => false
end

/-- What was done of a region in the text's order: each operation with its state ahead of it, and whether it was wanted. -/
structure Did where
  i : Nat
  o : Oper
  s : Fs
  v : Option Value   -- a value, of one that reads
  on : Bool

def runLog (P : Program) (inv : Inv) (ctx : Ctx) (ops : Array Oper) : Nat → List Oper → Fs → List Did → Option (Option (List PanicEntry) × Fs × List Did)
  | _, [], s, acc => some (none, s, acc.reverse)
  | i, o :: rest, s, acc =>
    bsel (Region.wanted o (yieldedT ops s.tm))
      (match stepO P inv ctx o s with
       | some (none, s') => bsel (!isRead o.op || Nat.beq s'.h.nx s.h.nx) (runLog P inv ctx ops (i + 1) rest s' (⟨i, o, s, bsel (isRead o.op) (o.dst.bind (s'.tm.get ·)) none, true⟩ :: acc)) none
       | some (some ch, s') => some (some ch, s', (⟨i, o, s, none, true⟩ :: acc).reverse)
       | none => none)
      (runLog P inv ctx ops (i + 1) rest (skipO o s) (⟨i, o, s, none, false⟩ :: acc))

def effs (ops : List Oper) (i : Nat) : List Nat :=
  match ops with
  | [] => []
  | o :: rest => bsel (isEff o.op) (i :: effs rest (i + 1)) (effs rest (i + 1))

/-- The heaps at which effects began, and the last one. -/
def vers (log : List Did) (last : List (Nat × Hp)) : List (Nat × Hp) :=
  (log.filter fun d => isEff d.o.op).map (fun d => (d.i, d.s.h)) ++ last

/-- Each effect needs all that stand ahead of it in the text. -/
def ordered (b : Array Nat) (es : List Nat) : Bool :=
  es.all fun e => es.all fun e' => Nat.ble e' e || (b.getD e' 0).testBit e

/-- May operation i be done when the effects ahead of T are done, and no others? -/
def verOk (b : Array Nat) (es : List Nat) (i T : Nat) : Bool :=
  es.all fun e => bsel (Nat.blt e T) (!(b.getD e 0).testBit i) (!(b.getD i 0).testBit e)

/-- Is that where the text has it? -/
def own (es : List Nat) (i T : Nat) : Bool := Nat.blt i T && es.all fun e => !(Nat.blt i e && Nat.blt e T)

def sameRead (P : Program) (d : Did) (h : Hp) : Bool :=
  match aop P (evalT d.s.tm) d.o h, d.v with
  | some (.val v, h'), some u => veq 200 v u && Nat.beq h'.nx h.nx
  | _, _ => false

def killDsts : List Oper → Tri Value → Tri Value
  | [], tm => tm
  | o :: l, tm => killDsts l (tput tm o.dst undef)

def checkDid (P : Program) (b : Array Nat) (es : List Nat) (vs : List (Nat × Hp)) (d : Did) : Bool :=
  bsel (d.on && isRead d.o.op) (vs.all fun (T, h) => !(verOk b es d.i T) || own es d.i T || sameRead P d h) true

/-- No read may see what it should not, whatever the values. -/
def okStat (ops : Array Oper) : Bool :=
  ops.toList.zipIdx.all fun (o, i) => !isRead o.op || (effs ops.toList 0 ++ [ops.size]).all fun T => !verOk (Region.before ops) (effs ops.toList 0) i T || own (effs ops.toList 0) i T
def lastOk (ops : Array Oper) (n : Nat) : Bool := (List.range ops.size).all fun j => Nat.blt j n || ((Region.before ops).getD j 0).testBit (n - 1)
def readsOk (P : Program) (ops : Array Oper) (log : List Did) (last : List (Nat × Hp)) : Bool :=
  bsel (okStat ops) true (log.all (checkDid P (Region.before ops) (effs ops.toList 0) (vers log last)))

def runAny (P : Program) (inv : Inv) (ctx : Ctx) (ops : Array Oper) (s : Fs) : Option (Option (List PanicEntry) × Fs) :=
  match runLog P inv ctx ops 0 ops.toList s [] with
  | some (none, s', log) => bsel (readsOk P ops log [(ops.size, s'.h)]) (some (none, s')) none
  | some (some ch, s', log) => bsel (readsOk P ops log [] && lastOk ops log.length)
      (some (some ch, ⟨killDsts ops.toList s'.tm, s'.df, s'.h, s'.pn⟩)) none
  | none => none

/-! what is looked at once, ahead of all runs -/
def okOperand (G : Nat) : Operand → Bool
  | .global g => Nat.blt g G
  | .const v => leafB v
  | _ => true

def okOper (nt G : Nat) (o : Oper) : Bool :=
  (match o.dst with
   | some d => Nat.blt d nt
   | none => true) && o.op.operands.toList.all (okOperand G)

def tmpsOf : List Operand → List Nat
  | [] => []
  | .tmp t :: l => t :: tmpsOf l
  | _ :: l => tmpsOf l

/-- The temporaries that an operation touches, its guard's among them. -/
def touches (ops : Array Oper) (o : Oper) : List Nat :=
  o.dst.toList ++ tmpsOf o.op.operands.toList ++ (match o.guard with
    | some (j, _) => ((ops[j]?).bind (·.dst)).toList
    | none => [])

def apartOk (ops : Array Oper) (b : Array Nat) (i : Nat) (o : Oper) (k : Nat) (q : Oper) : Bool :=
  Nat.beq i k || (match q.dst with
    | none => true
    | some d => !(touches ops o).contains d || bsel (Nat.blt i k) ((b.getD k 0).testBit i) ((b.getD i 0).testBit k))

def isAlloc : Op → Bool
  | .alloc _ | .box .. | .buildSlice .. | .makeSlice .. | .makeMap .. => true
  | _ => false

/-- An effect that stands later in the text comes later. -/
def aheadOk (b : Array Nat) (es : List Nat) (i : Nat) : Bool := es.all fun e => Nat.ble e i || (b.getD e 0).testBit i

def okDraw (ops : Array Oper) : Bool :=
  let b := Region.before ops
  let l := ops.toList.zipIdx
  ordered b (effs ops.toList 0) &&
  (l.all fun (o, i) => o.after.toList.all fun e => !Region.binds .any e || Nat.blt e.on i) &&
  (l.all fun (o, i) => !isAlloc o.op || aheadOk b (effs ops.toList 0) i) &&
  (l.all fun (o, i) => l.all fun (q, k) => apartOk ops b i o k q)

def okCode (nt G : Nat) : Code → Bool
  | .region _ ops draw => ops.toList.all (okOper nt G) && (!draw || okDraw ops)
  | .seq a b => okCode nt G a && okCode nt G b
  | .cond c a b => okOperand G c && okCode nt G a && okCode nt G b
  | .block _ a => okCode nt G a
  | .loop a => okCode nt G a
  | .rangeFunc f ps a b => okOperand G f && (ps.toList.all fun t => Nat.blt t nt) && okCode nt G a && okCode nt G b
  | _ => true

def okFunc (G : Nat) (f : Func) : Bool :=
  match f.body with
  | some b => okCode f.ntmps G b && f.name != "runtime.NumGoroutine"
  | none => true

abbrev EvC := Ctx → Code → Fs → Option (EExit × Fs)

def argsTri : Nat → List Value → Tri Value → Tri Value
  | _, [], t => t
  | i, v :: vs, t => argsTri (i + 1) vs (t.set i v)

def resA (P : Program) (tm : Tri Value) (h : Hp) : List ResultVar → Option (List Value)
  | [] => some []
  | .tmp t :: rest => (resA P tm h rest).map (tget tm t :: ·)
  | .cell a t :: rest => match tget tm a with
    | .pointer (some a) => match aload P h t a, resA P tm h rest with
      | some v, some vs => some (v :: vs)
      | _, _ => none
    | _ => none

def tupleOf : List Value → Value
  | [v] => v
  | vs => .tuple vs.toArray

def allCells : List ResultVar → Bool
  | [] => true
  | .cell .. :: r => allCells r
  | .tmp _ :: _ => false

/-- Calls that were deferred: with a chain of panics, or none. -/
def unwindA (inv : Inv) : List Deferred → Option (List PanicEntry) → Hp → Option (Option (List PanicEntry) × Hp)
  | [], ch, h => some (ch, h)
  | d :: ds, ch, h =>
    match d.target with
    | .collected r => match h.get r with
      | some (.deferred (some [])) => unwindA inv ds ch (h.set r (.deferred none))
      | _ => none
    | t => match inv ch true t d.args h with
      | some (.ret _, h, pn) => match pn with
        | some ({ recovered := true, .. } :: older) => bsel (older.all (!·.goexit)) (unwindA inv ds none h) none
        | pn => unwindA inv ds pn h
      | some (.panic c, h, none) => unwindA inv ds (some c) h
      | _ => none

def callF (P : Program) (ev : EvC) (inv : Inv) (pn : Option (List PanicEntry)) (dk : Bool) (f : FuncId) (args : Array Value) (h : Hp) : Option (CRes × Hp × Option (List PanicEntry)) :=
  match fnAt P f with
  | some fn => match fn.body with
    | some body =>
      let fin (ch : Option (List PanicEntry)) (s : Fs) : Option (CRes × Hp × Option (List PanicEntry)) :=
        match unwindA inv s.df ch s.h with
        | some (none, h) => bsel (ch.isNone || allCells fn.results.toList)
          (match resA P s.tm h fn.results.toList with
          | some vs => some (.ret (tupleOf vs), h, s.pn)
          | none => none) none
        | some (some c, h) => some (.panic c, h, s.pn)
        | none => none
      match ev ⟨f, none, dk⟩ body ⟨argsTri 0 args.toList .leaf, [], h, pn⟩ with
      | some (.normal, s) | some (.ret, s) => fin none s
      | some (.panic ch, s) => fin (some ch) s
      | _ => none
    | none =>
      bsel dk none <| match fn.name, fn.origin, args.toList with
      | "internal/abi.NoEscape", "", [x] => some (.ret x, h, pn)
      | "internal/bytealg.MakeNoZero", "", [.int .i64 n] => match (fn.resultTypes[0]?).bind (und P), asNat (.int .i64 n) with
        | some (.slice e), some k => bsel (Nat.ble k (2 ^ 40)) (some (.ret (.slice (some ⟨h.nx, 0, none⟩) k (unk + k)), h.new (.row [] e (.grow 1)), pn)) none
        | _, _ => none
      | _, _, _ => none
  | none => none

def setParams : List Tmp → List Value → Tri Value → Tri Value
  | t :: ts, v :: vs, tm => setParams ts vs (tm.set t v)
  | _, _, tm => tm

def roundEnd (l : Nat) (e : EExit) (s : Fs) : Option (CRes × Hp) :=
  match s.h.get l with
  | some (.loop _ _ fn tm params assign body dfs) =>
    match e with
    | .normal => some (.ret (.bool true), s.h.set l (.loop .ready none fn tm params assign body dfs))
    | .exit id => some (.ret (.bool false), s.h.set l (.loop .done (some (.exit id)) fn tm params assign body dfs))
    | .ret => some (.ret (.bool false), s.h.set l (.loop .done (some .ret) fn tm params assign body dfs))
    | _ => none
  | _ => none

def roundA (P : Program) (ev : EvC) (l : Nat) (args : List Value) (h : Hp) : Option (CRes × Hp) :=
  match h.get l with
  | some (.loop _ _ fn tm params assign body _) =>
    bsel (Nat.beq params.length args.length && (fnAt P fn).isSome)
      (match ev ⟨fn, some l, false⟩ assign ⟨setParams params args tm, [], h, none⟩ with
       | some (.normal, s) => match s.h.get l with
         | some (.loop .ready pd2 fn2 tm2 params2 assign2 body2 dfs2) =>
           match ev ⟨fn, some l, false⟩ body { s with h := s.h.set l (.loop .busy pd2 fn2 tm2 params2 assign2 body2 dfs2) } with
           | some (.panic ch, s) => match s.df with
             | [] => some (.panic ch, s.h)
             | _ => none
           | some (e, s) => roundEnd l e s
           | none => none
         | _ => none
       | _ => none) none
  | _ => none

/-- The method of a value's type, where it is the type's own. -/
def amethod (P : Program) (t : TypeId) (v : Value) (name : String) : Option (FuncId × Value) :=
  match (tys P).get t with
  | some i => match i.methods.find? (·.name == name) with
    | some m => match m.path.toList, m.func, und P t with
      | [], some (f, true), some (.pointer _) => some (f, v)
      | [], some (_, false), some (.pointer _) => none
      | [], some (f, false), some _ => some (f, v)
      | _, _, _ => none
    | none => none
  | none => none

def invA (P : Program) (ev : EvC) (inv : Inv) : Inv := fun pn dk t args h =>
  match t with
  | .fn (.func f) captured => callF P ev inv pn dk f (args ++ captured) h
  | .fn (.yield l) _ => bsel dk none ((roundA P ev l args.toList h).map fun (r, h) => (r, h, pn))
  | .fn (.method name) _ =>
    match (args[0]? : Option Value) with
    | some (.iface t v) => match amethod P t v name with
      | some (f, r) => callF P ev inv pn dk f (#[r] ++ args.extract 1 args.size) h
      | none => none
    | _ => none
  | _ => none

def eRegion (P : Program) (inv : Inv) (ctx : Ctx) (ops : Array Oper) (draw : Bool) (s : Fs) : Option (EExit × Fs) :=
  match bsel draw (runAny P inv ctx ops s) (runSeq P inv ctx ops ops.toList s) with
  | some (none, s) => some (.normal, s)
  | some (some ch, s) => some (.panic ch, s)
  | none => none
def eSeq (ev : EvC) (ctx : Ctx) (a b : Code) (s : Fs) : Option (EExit × Fs) :=
  match ev ctx a s with
  | some (.normal, s) => ev ctx b s
  | r => r
def eCond (ev : EvC) (ctx : Ctx) (c : Operand) (t e : Code) (s : Fs) : Option (EExit × Fs) :=
  match evalT s.tm c with
  | .bool b => ev ctx (bsel b t e) s
  | _ => none
def eBlock (ev : EvC) (ctx : Ctx) (id : Nat) (body : Code) (s : Fs) : Option (EExit × Fs) :=
  match ev ctx body s with
  | some (.exit i, s) => bsel (Nat.beq i id) (some (.normal, s)) (some (.exit i, s))
  | r => r
def eLoop (ev : EvC) (ctx : Ctx) (body : Code) (s : Fs) : Option (EExit × Fs) :=
  match ev ctx body s with
  | some (.normal, s) => ev ctx (.loop body) s
  | r => r
def rfStart (ctx : Ctx) (s : Fs) : Option (Nat × List Deferred × Hp) :=
  match ctx.round with
  | none => some (s.h.nx, [{ target := .collected s.h.nx, args := #[] }], s.h.new (.deferred (some [])))
  | some l => match s.h.get l with
    | some (.loop _ _ _ _ _ _ _ dfs) => some (dfs, [], s.h)
    | _ => none
def rfJump (pd : Option Code) (s : Fs) : Option (EExit × Fs) :=
  match pd with
  | none => some (.normal, s)
  | some (.exit id) => some (.exit id, s)
  | some .ret => some (.ret, s)
  | some _ => none
def rfEnd (l : Nat) (mark : List Deferred) (s : Fs) (h : Hp) : Option (EExit × Fs) :=
  match h.get l with
  | some (.loop .busy _ _ _ _ _ _ _) => none
  | some (.loop _ pd fn tm ps asg bd dfs) => rfJump pd ⟨s.tm, mark ++ s.df, h.set l (.loop .exhausted pd fn tm ps asg bd dfs), s.pn⟩
  | _ => none
def eRange (inv : Inv) (ctx : Ctx) (f : Operand) (params : Array Tmp) (assign body : Code) (s : Fs) : Option (EExit × Fs) :=
  match rfStart ctx s, evalT s.tm f with
  | some (dfs, mark, h), .func fn first captured =>
    match inv none false (.fn fn captured) (first ++ #[.func (.yield h.nx) #[] #[]]) (h.new (.loop .ready none ctx.fn s.tm params.toList assign body dfs)) with
    | some (.ret _, h', _) => rfEnd h.nx mark s h'
    | some (.panic ch, h', _) => some (.panic ch, ⟨s.tm, mark ++ s.df, h', s.pn⟩)
    | none => none
  | _, _ => none

def evS (P : Program) (ev : EvC) (inv : Inv) : EvC := fun ctx c =>
  match c with
  | .skip => fun s => some (.normal, s)
  | .label _ => fun s => some (.normal, s)
  | .region _ ops draw => eRegion P inv ctx ops draw
  | .seq a b => eSeq ev ctx a b
  | .cond c t e => eCond ev ctx c t e
  | .block id body => eBlock ev ctx id body
  | .loop body => eLoop ev ctx body
  | .rangeFunc f params assign body => eRange inv ctx f params assign body
  | .exit id => fun s => some (.exit id, s)
  | .ret => fun s => some (.ret, s)
  | _ => fun _ => none

def nxE (s : Fs) (r : Option (EExit × Fs)) : Option (EExit × Fs) :=
  match r with
  | some (e, s') => bsel (Nat.ble s.h.nx s'.h.nx) (some (e, s')) none
  | none => none
def nxI (h : Hp) (r : Option (CRes × Hp × Option (List PanicEntry))) : Option (CRes × Hp × Option (List PanicEntry)) :=
  match r with
  | some (e, h', pn) => bsel (Nat.ble h.nx h'.nx) (some (e, h', pn)) none
  | none => none

def evN (P : Program) : Nat → EvC × Inv
  | 0 => (fun _ _ _ => none, fun _ _ _ _ _ => none)
  | n + 1 => (fun ctx c s => nxE s (evS P (evN P n).1 (evN P n).2 ctx c s), fun pn dk t args h => nxI h (invA P (evN P n).1 (evN P n).2 pn dk t args h))

end
end Pri

