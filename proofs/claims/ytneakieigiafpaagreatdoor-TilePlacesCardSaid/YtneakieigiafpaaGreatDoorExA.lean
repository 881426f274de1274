/- A runner of the model's code on values whose addresses are names: what it computes for closed calls. Written by recursors, so that the kernel runs it quickly. (Definitions; what it says of the code is proved in the texts that follow.) -/
import Derived.WalkKit
import Derived.ScopeJumps
import Derived.Defers
import Derived.Orders
namespace Go.Ex
open Go
noncomputable section

def bindO {α β : Type} (x : Option α) (f : α → Option β) : Option β := Option.rec none f x
def ifB {α : Type} (b : Bool) (x y : α) : α := Bool.rec y x b
def guardO {β : Type} (b : Bool) (x : Option β) : Option β := Bool.rec none x b
/-- Numbers are laid bare. -/
def force {α : Type} (n : Nat) (K : Nat → α) : α := Nat.rec (K (nat_lit 0)) (fun m _ => K (Nat.succ m)) n

/-- What is known of a slice's capacity: it, or that so many elements of an unknown one are dropped. -/
inductive Cp where
  | ex (c : Nat)
  | un (lo : Nat)
/-- A value: an address is the name of a block and a place in it. -/
inductive SV where
  | v (x : Value)
  | ptr (b off : Nat)
  | sl (b off len : Nat) (cap : Cp)
  | fn (f : Nat) (first caps : List SV)
  | agg (cs : List SV)
  | tup (cs : List SV)

/-! ### A frame's slots -/
inductive T where
  | nil
  | leaf (k : Nat) (x : SV)
  | node (a b c d : T)
/-- A slot's place in the tree. -/
inductive Pth where
  | e (r : Nat)
  | a (p : Pth)
  | b (p : Pth)
  | c (p : Pth)
  | d (p : Pth)
def pick4 {α : Type} (k : Nat) (a b c d : α) : α := Nat.rec a (fun k _ => Nat.rec b (fun k _ => Nat.rec c (fun _ _ => d) k) k) k
def digit (k : Nat) (p : Pth) : Pth := pick4 (Nat.mod k (nat_lit 4)) (.a p) (.b p) (.c p) (.d p)
def Pth.bare (p : Pth) (K : Pth → Pth) : Pth := Pth.rec (motive := fun _ => Pth) (fun r => K (.e r)) (fun p _ => K (.a p)) (fun p _ => K (.b p)) (fun p _ => K (.c p)) (fun p _ => K (.d p)) p
def pathOf (k : Nat) : Pth := force (Nat.div k (nat_lit 256)) fun r => (digit (Nat.div k (nat_lit 64)) (.e r)).bare fun p => (digit (Nat.div k (nat_lit 16)) p).bare fun p => (digit (Nat.div k (nat_lit 4)) p).bare fun p => digit k p
def T.inA (t : T) (f : T → Option SV) : Option SV := T.rec (motive := fun _ => Option SV) none (fun _ _ => none) (fun a _ _ _ _ _ _ _ => f a) t
def T.inB (t : T) (f : T → Option SV) : Option SV := T.rec (motive := fun _ => Option SV) none (fun _ _ => none) (fun _ b _ _ _ _ _ _ => f b) t
def T.inC (t : T) (f : T → Option SV) : Option SV := T.rec (motive := fun _ => Option SV) none (fun _ _ => none) (fun _ _ c _ _ _ _ _ => f c) t
def T.inD (t : T) (f : T → Option SV) : Option SV := T.rec (motive := fun _ => Option SV) none (fun _ _ => none) (fun _ _ _ d _ _ _ _ => f d) t
def T.here (t : T) (r : Nat) : Option SV := T.rec (motive := fun _ => Option SV) none (fun j x => guardO (Nat.beq j r) (some x)) (fun _ _ _ _ _ _ _ _ => none) t
def T.getP (p : Pth) : T → Option SV := Pth.rec (motive := fun _ => T → Option SV) (fun r t => t.here r) (fun _ f t => t.inA f) (fun _ f t => t.inB f) (fun _ f t => t.inC f) (fun _ f t => t.inD f) p
def T.get (t : T) (k : Nat) : Option SV := T.getP (pathOf k) t
/-- (the subtrees are laid bare, so that nothing is put off) -/
def T.bare (K : T → T) (t : T) : T := T.rec (motive := fun _ => T) (K .nil) (fun j x => K (.leaf j x)) (fun a b c d _ _ _ _ => K (.node a b c d)) t
def T.split (t : T) (f : T → T → T → T → T) : T := T.rec (motive := fun _ => T) (f .nil .nil .nil .nil) (fun _ _ => f .nil .nil .nil .nil) (fun a b c d _ _ _ _ => f a b c d) t
def T.putP (x : SV) (p : Pth) : T → T := Pth.rec (motive := fun _ => T → T) (fun r _ => .leaf r x)
  (fun _ ih t => t.split fun a b c d => T.bare (fun a => .node a b c d) (ih a)) (fun _ ih t => t.split fun a b c d => T.bare (fun b => .node a b c d) (ih b))
  (fun _ ih t => t.split fun a b c d => T.bare (fun c => .node a b c d) (ih c)) (fun _ ih t => t.split fun a b c d => T.bare (fun d => .node a b c d) (ih d)) p
def T.put (t : T) (k : Nat) (x : SV) : T := T.putP x (pathOf k) t
def T.ofList (l : List SV) : Nat → T → T := List.rec (motive := fun _ => Nat → T → T) (fun _ t => t) (fun x _ ih k t => force (Nat.succ k) fun k' => ih k' (T.put t k x)) l

/-! ### Memory -/
/-- A block: its first cells; sz: 0, or the cells of an element, the block being as long as its unknown capacity says. -/
structure B where
  cells : List SV
  sz : Nat
structure Hp where
  id : Nat
  b : B
def Hp.on {α : Type} (h : Hp) (f : Nat → B → α) : α := Hp.rec f h
def hget (l : List Hp) (k : Nat) : Option B := List.rec none (fun h _ ih => h.on fun i b => ifB (Nat.beq i k) (some b) ih) l
def hset (l : List Hp) (k : Nat) (x : B) : List Hp := List.rec [] (fun h l ih => h.on fun i b => ifB (Nat.beq i k) (⟨k, x⟩ :: l) (⟨i, b⟩ :: ih)) l
def hdel (l : List Hp) (k : Nat) : List Hp := List.rec [] (fun h l ih => h.on fun i b => ifB (Nat.beq i k) l (⟨i, b⟩ :: ih)) l
/-- What was laid from the name n on is let go. -/
def hdrop (l : List Hp) (n : Nat) : List Hp := List.rec [] (fun h l ih => h.on fun i b => ifB (Nat.ble n i) ih (⟨i, b⟩ :: l)) l

/-! ### Lists -/
def mapO {α β : Type} (f : α → Option β) (l : List α) : Option (List β) := List.rec (some []) (fun x _ ih => bindO (f x) fun y => bindO ih fun ys => some (y :: ys)) l
/-- The first n from a place on. -/
def takeN (n : Nat) : List SV → Option (List SV) := Nat.rec (fun _ => some []) (fun _ ih l => List.rec none (fun x l _ => bindO (ih l) fun r => some (x :: r)) l) n
def dropN (k : Nat) : List SV → List SV := Nat.rec (fun l => l) (fun _ ih l => List.rec [] (fun _ l _ => ih l) l) k
def takeS (n : Nat) (l : List SV) (off : Nat) : Option (List SV) := takeN n (dropN off l)
def nth (l : List SV) (k : Nat) : Option SV := List.rec none (fun x _ _ => some x) (dropN k l)
def overS (vs : List SV) : List SV → Option (List SV) := List.rec (fun l => some l) (fun x _ ih l => List.rec none (fun _ l _ => bindO (ih l) fun r => some (x :: r)) l) vs
/-- Cells written over. -/
def putS (vs : List SV) (off : Nat) : List SV → Option (List SV) := Nat.rec (overS vs) (fun _ ih l => List.rec none (fun x l _ => bindO (ih l) fun r => some (x :: r)) l) off
def len (l : List SV) : Nat := List.rec (nat_lit 0) (fun _ _ ih => Nat.succ ih) l

/-! ### Values -/
def isV (x : SV) : Option Value := SV.rec (motive_1 := fun _ => Option Value) (motive_2 := fun _ => Unit) (fun x => some x) (fun _ _ => none) (fun _ _ _ _ => none) (fun _ _ _ _ _ => none) (fun _ _ => none) (fun _ _ => none) () (fun _ _ _ _ => ()) x
def flats (l : List SV) : Option (List Value) := mapO isV l
/-- A value without an address. -/
def SV.flat (x : SV) : Option Value := match x with
  | .v x => some x
  | .agg cs => bindO (flats cs) fun l => some (.agg l.toArray)
  | _ => none
def flatA (l : List SV) : Option (List Value) := mapO SV.flat l
def isS {α : Type} (x : Option α) : Bool := Option.rec false (fun _ => true) x
def SV.isFlat (x : SV) : Bool := match x with
  | .v _ => true
  | .agg cs => isS (flats cs)
  | .tup cs => isS (flatA cs)
  | _ => false
def valsOf (l : List Value) : List SV := List.rec [] (fun x _ ih => .v x :: ih) l
/-- A value's cells. -/
def SV.cells (x : SV) : List SV := match x with
  | .agg cs => cs
  | .v (.agg cs) => valsOf cs.toList
  | x => [x]
/-- May it lie in a cell? -/
def SV.isCell (x : SV) : Bool := match x with
  | .agg _ | .tup _ | .v (.agg _) | .v (.tuple _) => false
  | _ => true
def allCell (l : List SV) : Bool := List.rec true (fun x _ ih => ifB x.isCell ih false) l
def bareV {α : Type} (x : Value) (K : Value → α) : α := match x with
  | .bool b => ifB b (K (.bool true)) (K (.bool false))
  | .int k (.ofNat m) => force m fun m => K (.int k (.ofNat m))
  | .int k (.negSucc m) => force m fun m => K (.int k (.negSucc m))
  | .float k b => force b fun b => K (.float k b)
  | .complex k a b => force a fun a => force b fun b => K (.complex k a b)
  | x => K x

/-! ### The model's own operations where no memory is looked at -/
def runP {α : Type} (P : Program) : Sem α → Option α
  | .pure a => some a
  | .program k => runP P (k P)
  | .mark _ k => runP P k
  | _ => none
def pureOp (P : Program) (s : Sem Value) : Option SV := bindO (runP P s) fun x => bareV x fun x => some (.v x)

/-! ### Whole numbers in haste -/
def i64max : Nat := nat_lit 9223372036854775807
def wrapU (k : IntKind) (m : Nat) (s : Nat) : Option Value := force (Nat.mod s m) fun r => some (.int k (.ofNat r))
def wrapF (k : IntKind) (s : Nat) : Option Value := match k with
  | .i64 => guardO (Nat.ble s (nat_lit 9223372036854775807)) (force s fun r => some (.int .i64 (.ofNat r)))
  | .u64 => wrapU .u64 (nat_lit 18446744073709551616) s
  | .u32 => wrapU .u32 (nat_lit 4294967296) s
  | .u8 => wrapU .u8 (nat_lit 256) s
  | _ => none
def subU (k : IntKind) (m a b : Nat) : Option Value := ifB (Nat.ble b a) (wrapU k m (Nat.sub a b)) (guardO (Nat.ble b m) (wrapU k m (Nat.sub (Nat.add a m) b)))
def subF (k : IntKind) (a b : Nat) : Option Value := match k with
  | .i64 => guardO (Nat.ble a (nat_lit 9223372036854775807)) (guardO (Nat.ble b (nat_lit 9223372036854775807)) (ifB (Nat.ble b a) (force (Nat.sub a b) fun r => some (.int .i64 (.ofNat r))) (force (Nat.pred (Nat.sub b a)) fun r => some (.int .i64 (.negSucc r)))))
  | .u64 => subU .u64 (nat_lit 18446744073709551616) a b
  | .u32 => subU .u32 (nat_lit 4294967296) a b
  | .u8 => subU .u8 (nat_lit 256) a b
  | _ => none
def boolV (b : Bool) : Option Value := ifB b (some (.bool true)) (some (.bool false))
def isI64 (k : IntKind) : Bool := match k with | .i64 => true | _ => false
def natOp (op : BinOp) (k : IntKind) (a b : Nat) : Option Value := match op with
  | .add => wrapF k (Nat.add a b)
  | .sub => subF k a b
  | .mul => wrapF k (Nat.mul a b)
  | .eql => boolV (Nat.beq a b)
  | .neq => boolV (Bool.not (Nat.beq a b))
  | .lss => boolV (Nat.ble (Nat.succ a) b)
  | .leq => boolV (Nat.ble a b)
  | .gtr => boolV (Nat.ble (Nat.succ b) a)
  | .geq => boolV (Nat.ble b a)
  | _ => none
def intOp (op : BinOp) (k : IntKind) (x y : Int) : Option Value := match x, y with
  | .ofNat a, .ofNat b => natOp op k a b
  | _, _ => none
def kindEq (k l : IntKind) : Bool := decide (k = l)
def fastBin (op : BinOp) (a b : Value) : Option Value := match a, b with
  | .int k x, .int l y => guardO (kindEq k l) (intOp op k x y)
  | _, _ => none
def floatBin (op : BinOp) (x y : Nat) : Sem Value := match op with
  | .add | .sub | .mul | .quo => Op.floatArith op .f64 x y
  | _ => Op.floatCmp op .f64 x y
def isF64 (k : FloatKind) : Bool := match k with | .f64 => true | _ => false

structure St where
  env : T
  heap : List Hp
  n : Nat
  log : List Nat
  defs : List (Nat × List SV)
def St.on {α : Type} (s : St) (f : T → List Hp → Nat → List Nat → List (Nat × List SV) → α) : α := St.rec f s
structure Cx where
  base : Nat
  N : Nat

def opv (env : T) (x : Operand) : Option SV := match x with
  | .tmp t => env.get t
  | .const v => some (.v v)
  | .func f => some (.fn f [] [])
  | .global g => guardO (Nat.ble g (nat_lit 4095)) (some (.ptr g (nat_lit 0)))
def opvs (env : T) (l : List Operand) : Option (List SV) := mapO (opv env) l

section
variable (P : Program) (ora : Nat → List SV → List Hp → Option SV)
def isAggT (t : TypeId) : Bool := match P.underlying t with | some (.struct _) | some (.array ..) => true | _ => false
def zeroOf (t : TypeId) : Option (List SV) := bindO (P.info? t) fun i => bindO i.zero fun z => some (valsOf z.cells.toList)
def fieldOf (t : TypeId) (f : Nat) : Option Field := match P.underlying t with
  | some (.struct fs) => fs[f]?
  | _ => none
def sizeT (t : TypeId) : Option Nat := bindO (P.info? t) fun i => some i.size
/-- An element's zero, and its size. -/
def zeroRow (e : TypeId) : Option (List SV × Nat) := bindO (zeroOf P e) fun z => bindO (sizeT P e) fun n => guardO (Nat.beq (len z) n) (some (z, n))
/-- A part of a value's cells. -/
def partS (t : TypeId) (cs : List SV) (off : Nat) : Option SV := guardO (isS (P.underlying t)) (bindO (sizeT P t) fun n => ifB (isAggT P t) (bindO (takeS n cs off) fun r => some (.agg r)) (nth cs off))
def isRef (x : SV) : Bool := match x with
  | .ptr .. | .sl .. | .fn .. => true
  | _ => false
def refEq (op : BinOp) : Option SV := match op with
  | .eql => some (.v (.bool false))
  | .neq => some (.v (.bool true))
  | _ => none
/-- Something against nothing. -/
def refNil (op : BinOp) (t : TypeId) (a : SV) (u : Value) : Option SV := match a, u, P.underlying t with
  | .ptr _ _, .pointer none, some (.pointer _) => refEq op
  | .sl _ _ _ _, .slice none _ _, some (.slice _) => refEq op
  | .fn _ _ _, .nilFunc, some (.func _ _ _) => refEq op
  | _, _, _ => none
def slowBin (op : BinOp) (t : TypeId) (x y : Operand) (u w : Value) : Option SV := pureOp P (do eqGuard op t x y u w; binOp op t u w)
def valBin (op : BinOp) (t : TypeId) (x y : Operand) (u w : Value) : Option SV := match u, w with
  | .float .f64 a, .float .f64 b => pureOp P (floatBin op a b)
  | u, w => Option.rec (slowBin P op t x y u w) (fun r => some (.v r)) (fastBin op u w)
def binS (op : BinOp) (t : TypeId) (x y : Operand) (a b : SV) : Option SV :=
  Option.rec (bindO b.flat fun w => refNil P op t a w) (fun u => bindO b.flat fun w => valBin P op t x y u w) a.flat
def ptrOf {α : Type} (x : SV) (f : Nat → Nat → Option α) : Option α := match x with
  | .ptr b off => f b off
  | _ => none
def loadS (heap : List Hp) (t : TypeId) (p : SV) : Option SV := ptrOf p fun b off => bindO (hget heap b) fun bl => partS P t bl.cells off
def olds (n : Nat) (l : List Nat) : List Nat := List.rec [] (fun b _ ih => ifB (Nat.ble (Nat.succ b) n) (b :: ih) ih) l
/-- Is it one that was there before? -/
def logged (cx : Cx) (b : Nat) (log : List Nat) : List Nat := ifB (Nat.ble (Nat.succ b) cx.base) (b :: log) log
def St.heapIs (s : St) (h : List Hp) (log : List Nat) : St := s.on fun env _ n _ defs => ⟨env, h, n, log, defs⟩
def storeC (cx : Cx) (b off : Nat) (vs : List SV) (s : St) : Option St := s.on fun env heap n log defs =>
  bindO (hget heap b) fun bl => bindO (putS vs off bl.cells) fun cs => some ⟨env, hset heap b ⟨cs, bl.sz⟩, n, logged cx b log, defs⟩
def storeS (cx : Cx) (t : TypeId) (a x : SV) (s : St) : Option St := ptrOf a fun b off => bindO (sizeT P t) fun n =>
  guardO (Nat.beq (len x.cells) n) (guardO (allCell x.cells) (storeC cx b off x.cells s))
def newS (cs : List SV) (sz : Nat) (s : St) (K : Nat → SV) : Option (SV × St) := s.on fun env heap n log defs => some (K n, ⟨env, ⟨n, ⟨cs, sz⟩⟩ :: heap, Nat.succ n, log, defs⟩)
/-- Where a composite's parts lie: their places and how many cells they have. -/
def placesOf (t : TypeId) : Option (Nat → Option (Nat × Nat)) := match P.underlying t with
  | some (.struct fs) => bindO (fs.toList.mapM (fun f => (P.info? f.type).map fun i => (f.offset, i.size))) fun l => some fun i => l[i]?
  | some (.array _ e) => bindO (sizeT P e) fun n => some fun i => some (Nat.mul i n, n)
  | _ => none
def fillS (place : Nat → Option (Nat × Nat)) (ps : List (Nat × SV)) : List SV → Option (List SV) :=
  List.rec (fun cs => some cs) (fun p _ ih cs => bindO (place p.1) fun pl => guardO (Nat.beq (len p.2.cells) pl.2) (bindO (putS p.2.cells pl.1 cs) ih)) ps
def opps (env : T) (l : List (Nat × Operand)) : Option (List (Nat × SV)) := mapO (fun p => bindO (opv env p.2) fun v => some (p.1, v)) l
def replS (n : Nat) (z : List SV) : List SV := Nat.rec [] (fun _ ih => z ++ ih) n
def natOf (x : SV) : Option Nat := match x with
  | .v (.int _ (.ofNat n)) => some n
  | _ => none
def elemOfT (t : TypeId) : Option TypeId := match P.underlying t with
  | some (.slice e) => some e
  | _ => none
def bytesS (l : List UInt8) : List SV := List.rec [] (fun b _ ih => force b.toNat (fun n => .v (.int .u8 (.ofNat n))) :: ih) l
def byteOf (x : SV) : Option UInt8 := match x with
  | .v (.int .u8 (.ofNat n)) => guardO (Nat.ble n (nat_lit 255)) (some (UInt8.ofNat n))
  | _ => none
/-- A slice's cells, and its length. -/
def rowS (heap : List Hp) (sz : Nat) (x : SV) : Option (List SV × Nat) := match x with
  | .v (.slice none 0 0) => some ([], nat_lit 0)
  | .sl b off n _ => bindO (hget heap b) fun bl => bindO (takeS (Nat.mul n sz) bl.cells off) fun cs => some (cs, n)
  | _ => none
def rowOrText (heap : List Hp) (sz : Nat) (x : SV) : Option (List SV × Nat) := match x with
  | .v (.string s) => guardO (Nat.beq sz (nat_lit 1)) (some (bytesS s.data.toList, s.size))
  | x => rowS heap sz x
/-- A grown slice, in a block of its own name. -/
def grownS (cells : List SV) (sz k : Nat) (s : St) : Option (SV × St) := force k fun k => newS cells sz s fun n => .sl n (nat_lit 0) k (.un (nat_lit 0))
def szIs (heap : List Hp) (b sz : Nat) : Bool := Option.rec false (fun bl => Nat.beq bl.sz sz) (hget heap b)
def appendE (cx : Cx) (sz : Nat) (a : SV) (olds news : List SV) (n k : Nat) (s : St) : Option (SV × St) := match a with
  | .v (.slice none 0 0) => Nat.rec (some (a, s)) (fun _ _ => grownS news sz k s) k
  | .sl b off _ (.ex c) => ifB (Nat.ble (Nat.add n k) c)
      (bindO (storeC cx b (Nat.add off (Nat.mul n sz)) news s) fun s => force (Nat.add n k) fun m => some (.sl b off m (.ex c), s))
      (grownS (olds ++ news) sz (Nat.add n k) s)
  | .sl b off _ (.un lo) => guardO (Nat.beq off (nat_lit 0)) (guardO (Nat.beq lo (nat_lit 0)) (guardO (szIs s.heap b sz)
      (s.on fun env heap m log defs => grownS (olds ++ news) sz (Nat.add n k) ⟨env, hdel heap b, m, logged cx b log, defs⟩)))
  | _ => none
def roomy (n : Nat) : Bool := Nat.ble n (nat_lit 16777216)
def rowType (u : TypeId) : Bool := match P.underlying u with
  | some (.slice _) | some .string => true
  | _ => false
def roomyT (n : Nat) (e : TypeId) : Bool := Option.rec false (fun i => ifB (roomy n) (Nat.ble i.bytes (nat_lit 65536)) false) (P.info? e)
def appendS (cx : Cx) (t u : TypeId) (a x : SV) (s : St) : Option (SV × St) := bindO (elemOfT P t) fun e => bindO (zeroRow P e) fun zn =>
  guardO (Nat.ble (nat_lit 1) zn.2) (guardO (rowType P u) (bindO (rowOrText s.heap zn.2 x) fun xs => bindO (rowS s.heap zn.2 a) fun as => guardO (roomyT P (Nat.add as.2 xs.2) e) (guardO (allCell xs.1) (appendE cx zn.2 a as.1 xs.1 as.2 xs.2 s))))
def copyE (cx : Cx) (sz : Nat) (a : SV) (xs : List SV) (n : Nat) (s : St) : Option (SV × St) := match a with
  | .v (.slice none 0 0) => some (.v (.int .i64 (.ofNat (nat_lit 0))), s)
  | .sl b off k _ => force (Nat.min n k) fun m => bindO (takeN (Nat.mul m sz) xs) fun cs => guardO (allCell cs) (bindO (storeC cx b off cs s) fun s => some (.v (.int .i64 (.ofNat m)), s))
  | _ => none
def copyS (cx : Cx) (t : TypeId) (a x : SV) (s : St) : Option (SV × St) := bindO (elemOfT P t) fun e => bindO (sizeT P e) fun sz =>
  bindO (rowOrText s.heap sz x) fun xs => copyE cx sz a xs.1 xs.2 s
def optNat (x : Option SV) (d : Nat) : Option Nat := Option.rec (some d) natOf x
/-- s[lo:hi] -/
def cutText (t : TypeId) (s : ByteArray) (lo hi : Option SV) : Option SV := match lo, hi with
  | none, none => pureOp P (Instr.sliceAt t (.string s) none none none)
  | some l, none => bindO l.flat fun l => pureOp P (Instr.sliceAt t (.string s) (some l) none none)
  | none, some h => bindO h.flat fun h => pureOp P (Instr.sliceAt t (.string s) none (some h) none)
  | some l, some h => bindO l.flat fun l => bindO h.flat fun h => pureOp P (Instr.sliceAt t (.string s) (some l) (some h) none)
def unRoom (heap : List Hp) (b off n k z : Nat) : Bool := Option.rec false (fun bl => ifB (Nat.beq bl.sz z) (ifB (Nat.ble (nat_lit 1) z) (ifB (Nat.beq off (Nat.mul k z)) (Nat.ble (Nat.add off (Nat.mul n z)) (len bl.cells)) false) false) false) (hget heap b)
def cutRow (heap : List Hp) (b off n : Nat) (cap : Cp) (sz l h : Nat) : Option SV := match cap with
  | .ex c => guardO (Nat.ble l h) (guardO (Nat.ble h c) (force (ifB (Nat.beq c l) off (Nat.add off (Nat.mul l sz))) fun o => force (Nat.sub h l) fun m => force (Nat.sub c l) fun c => some (.sl b o m (.ex c))))
  | .un k => guardO (unRoom heap b off n k sz) (guardO (Nat.ble l h) (guardO (Nat.ble h n) (guardO (ifB (Nat.beq l (nat_lit 0)) true (Nat.ble (Nat.succ l) n)) (force (Nat.add off (Nat.mul l sz)) fun o => force (Nat.sub h l) fun m => force (Nat.add k l) fun k => some (.sl b o m (.un k))))))
def sliceS (heap : List Hp) (t : TypeId) (x : SV) (lo hi : Option SV) : Option SV := match x with
  | .v (.string s) => cutText P t s lo hi
  | .v (.slice none 0 0) => bindO (elemOfT P t) fun e => bindO (sizeT P e) fun _ => bindO (optNat lo (nat_lit 0)) fun l => bindO (optNat hi (nat_lit 0)) fun h => guardO (Nat.beq l (nat_lit 0)) (guardO (Nat.beq h (nat_lit 0)) (some x))
  | .sl b off n cap => bindO (elemOfT P t) fun e => bindO (sizeT P e) fun sz => bindO (optNat lo (nat_lit 0)) fun l => bindO (optNat hi n) fun h => cutRow heap b off n cap sz l h
  | _ => none
def isU8 (t : TypeId) : Bool := match P.underlying t with
  | some (.int .u8) => true
  | _ => false
def isText (t : TypeId) : Bool := match P.underlying t with
  | some .string => true
  | _ => false
def slowConv (src dst : TypeId) (x : SV) (s : St) : Option (SV × St) := bindO x.flat fun u => bindO (pureOp P (convert src dst u)) fun r => some (r, s)
/-- A literal's row of bytes gets its mark. -/
def markS (cx : Cx) (src dst : TypeId) (b off : Nat) (x : SV) (s : St) : Option (SV × St) := guardO (Nat.beq src dst) (bindO (elemOfT P dst) fun e => guardO (isU8 P e) (bindO (storeC cx b off [] s) fun s => some (x, s)))
def convS (cx : Cx) (src dst : TypeId) (x : SV) (s : St) : Option (SV × St) := match x with
  | .v (.string bs) => Option.rec (slowConv P src dst x s)
      (fun e => guardO (isText P src) (guardO (isU8 P e) (grownS (bytesS bs.data.toList) (nat_lit 1) bs.size s))) (elemOfT P dst)
  | .sl b off _ _ => Bool.rec (markS P cx src dst b off x s) (bindO (elemOfT P src) fun e => guardO (isU8 P e) (bindO (rowS s.heap (nat_lit 1) x) fun cs => bindO (mapO byteOf cs.1) fun l => some (.v (.string ⟨l.toArray⟩), s))) (isText P dst)
  | x => slowConv P src dst x s
def lenS (t : TypeId) (x : SV) : Option SV := match x with
  | .sl _ _ n _ => bindO (elemOfT P t) fun _ => some (.v (.int .i64 (.ofNat n)))
  | .v u => pureOp P (Builtin.len_ #[t] (nat_lit 0) #[u])
  | _ => none
def asVal (x : Next) : Option SV := match x with
  | .value x => bareV x fun x => some (.v x)
  | _ => none
def consts (l : Array Operand) : Array Bool := l.map fun | .const _ => true | _ => false
def plainB (b : Builtin) (c : Call) (type : TypeId) (args : List SV) (s : St) : Option (SV × St) :=
  bindO (flatA args) fun us => bindO (runP P (builtin b c.argTypes type (consts c.args) us.toArray)) fun r => bindO (asVal r) fun v => some (v, s)
def two {α : Type} (args : List SV) (f : SV → SV → Option α) : Option α := match args with
  | [a, b] => f a b
  | _ => none
def one {α : Type} (args : List SV) (f : SV → Option α) : Option α := match args with
  | [a] => f a
  | _ => none
def builtinS (cx : Cx) (b : Builtin) (c : Call) (type : TypeId) (args : List SV) (s : St) : Option (SV × St) := match b with
  | .append => two args fun a x => bindO c.argTypes[0]? fun t => bindO c.argTypes[1]? fun u => appendS P cx t u a x s
  | .copy => two args fun a x => bindO c.argTypes[0]? fun t => copyS P cx t a x s
  | .len => one args fun x => bindO c.argTypes[0]? fun t => bindO (lenS P t x) fun r => some (r, s)
  | .real | .imag | .complex | .max | .min => plainB P b c type args s
  | _ => none
structure FnI where
  body : Code
  ntmps : Nat
  results : List ResultVar
def fnOf (f : Nat) : Option FnI := bindO P.funcs[f]? fun fn => bindO fn.body fun c => guardO (!(fn.name == "runtime.NumGoroutine")) (some ⟨c, fn.ntmps, fn.results.toList⟩)
abbrev Caller := Cx → Nat → List SV → St → Option (SV × St)
def same (s : St) (x : Option SV) : Option (SV × St) := bindO x fun v => some (v, s)
def pickS (env : T) (c a b : Operand) : Option SV := bindO (opv env c) fun c => match c with
  | .v (.bool t) => ifB t (opv env a) (opv env b)
  | _ => none
def buildS (s : St) (t : TypeId) (ps : Array (Nat × Operand)) : Option SV := bindO (zeroOf P t) fun z => bindO (opps s.env ps.toList) fun ps => bindO (placesOf P t) fun pl => bindO (fillS pl ps z) fun cs => some (.agg cs)
def rowPlace (n i : Nat) : Option (Nat × Nat) := some (Nat.mul i n, n)
def buildRow (s : St) (t : TypeId) (len : Nat) (ps : Array (Nat × Operand)) : Option (SV × St) := bindO (elemOfT P t) fun e => bindO (opps s.env ps.toList) fun ps =>
  bindO (zeroRow P e) fun zn => guardO (roomy (Nat.mul len zn.2)) (bindO (fillS (rowPlace zn.2) ps (replS len zn.1)) fun cs => newS cs (nat_lit 0) s fun b => .sl b (nat_lit 0) len (.ex len))
def makeRow (s : St) (t : TypeId) (l c : Operand) : Option (SV × St) := bindO (elemOfT P t) fun e => bindO (bindO (opv s.env l) natOf) fun l => bindO (bindO (opv s.env c) natOf) fun c =>
  bindO (zeroRow P e) fun zn => guardO (Nat.ble l c) (guardO (roomyT P c e) (newS (ifB (Nat.ble c (nat_lit 65536)) (replS c zn.1) []) (nat_lit 0) s fun b => .sl b (nat_lit 0) l (.ex c)))
def fieldAddrS (env : T) (t : TypeId) (x : Operand) (f : Nat) : Option SV := bindO (opv env x) fun p => bindO (fieldOf P t f) fun fd => bindO (sizeT P fd.type) fun z => guardO (Nat.ble (nat_lit 1) z)
  (ptrOf p fun b off => force (Nat.add off fd.offset) fun off => some (.ptr b off))
def isAggV (x : SV) : Bool := match x with
  | .agg _ => true
  | .v (.agg _) => true
  | _ => false
def fieldS (env : T) (t : TypeId) (x : Operand) (f : Nat) : Option SV := bindO (opv env x) fun v => bindO (fieldOf P t f) fun fd => guardO (isAggV v) (partS P fd.type v.cells fd.offset)
def arrayOfT (t : TypeId) : Option (Nat × TypeId) := match P.underlying t with
  | some (.array n e) => some (n, e)
  | _ => none
def indexRow (t : TypeId) (v : SV) (k : Nat) : Option SV := match v with
  | .sl b off n _ => bindO (elemOfT P t) fun e => bindO (sizeT P e) fun z => guardO (Nat.ble (Nat.succ k) n) (force (Nat.add off (Nat.mul k z)) fun off => some (.ptr b off))
  | .ptr b off => bindO (arrayOfT P t) fun ne => bindO (sizeT P ne.2) fun z => guardO (Nat.ble (Nat.succ k) ne.1) (force (Nat.add off (Nat.mul k z)) fun off => some (.ptr b off))
  | _ => none
def indexAddrS (env : T) (t : TypeId) (x i : Operand) : Option SV := bindO (opv env x) fun v => bindO (bindO (opv env i) natOf) fun k => indexRow P t v k
def indexV (t : TypeId) (v i : SV) : Option SV := match v with
  | .v (.string bs) => bindO i.flat fun u => pureOp P (Instr.index t (.string bs) u)
  | v => bindO (natOf i) fun k => bindO (arrayOfT P t) fun ne => bindO (sizeT P ne.2) fun z => guardO (Nat.ble (Nat.succ k) ne.1) (guardO (isAggV v) (partS P ne.2 v.cells (Nat.mul k z)))
def indexS (env : T) (t : TypeId) (x i : Operand) : Option SV := bindO (opv env x) fun v => bindO (opv env i) fun i => indexV P t v i
def extractS (env : T) (t : Operand) (i : Nat) : Option SV := bindO (opv env t) fun v => match v with
  | .tup vs => nth vs i
  | _ => none
def storeOp (cx : Cx) (s : St) (t : TypeId) (a x : Operand) : Option (SV × St) := bindO (opv s.env a) fun p => bindO (opv s.env x) fun v => bindO (storeS P cx t p v s) fun s => some (.v undef, s)
def nilS (env : T) (x : Operand) : Option SV := bindO (opv env x) fun v => guardO (isRef v) (some v)
def unS (env : T) (op : UnOp) (x : Operand) : Option SV := bindO (opv env x) fun v => bindO v.flat fun u => pureOp P (Op.unary op u)
def funcS (env : T) (fn : Fn) (first caps : Array Operand) : Option SV := match fn with
  | .func f => bindO (opvs env first.toList) fun a => bindO (opvs env caps.toList) fun b => some (.fn f a b)
  | _ => none
def optS {α : Type} (env : T) (x : Option Operand) (K : Option SV → Option α) : Option α := Option.rec (K none) (fun x => bindO (opv env x) fun v => K (some v)) x
def sliceOp (heap : List Hp) (env : T) (t : TypeId) (x : Operand) (lo hi mx : Option Operand) : Option SV := match mx with
  | none => bindO (opv env x) fun v => optS env lo fun l => optS env hi fun h => sliceS P heap t v l h
  | _ => none
def fnS {α : Type} (env : T) (f : Operand) (K : Nat → List SV → List SV → Option α) : Option α := bindO (opv env f) fun v => match v with
  | .fn f a b => K f a b
  | _ => none
/-- Which method an interface's value has by a name, and its receiver. -/
def methodOf (x : SV) (name : String) : Option (FuncId × Value) := match x with
  | .v (.iface t v) => runP P (do method ((← program).types.size + Made.depth) t v name)
  | _ => none
def callS (call : Caller) (cx : Cx) (c : Call) (type : TypeId) (s : St) : Option (SV × St) := bindO (opvs s.env c.args.toList) fun args => match c.callee with
  | .builtin b => builtinS P cx b c type args s
  | .value f => fnS s.env f fun f a b => call cx f (a ++ (args ++ b)) s
  | .invoke r name => bindO (opv s.env r) fun x => bindO (methodOf P x name) fun m => call cx m.1 (.v m.2 :: args) s
def deferS (c : Call) (s : St) : Option (SV × St) := bindO (opvs s.env c.args.toList) fun args => match c.callee with
  | .value f => fnS s.env f fun f a b => s.on fun env heap n log defs => some (.v undef, ⟨env, heap, n, log, (f, a ++ (args ++ b)) :: defs⟩)
  | _ => none
/-- What an operation does (laid bare once for each operation of the program). -/
inductive Comp where
  | mk (f : Caller → Cx → St → Option (SV × St))
def Comp.run (c : Comp) : Caller → Cx → St → Option (SV × St) := Comp.rec (fun f => f) c
def comp (o : Oper) : Comp := match o.op with
  | .move x | .assign x => .mk fun call cx s => same s (opv s.env x)
  | .pick c a b => .mk fun call cx s => same s (pickS s.env c a b)
  | .alloc t => .mk fun call cx s => bindO (zeroOf P t) fun cs => newS cs (nat_lit 0) s fun n => .ptr n (nat_lit 0)
  | .box _ x => .mk fun call cx s => bindO (opv s.env x) fun v => newS v.cells (nat_lit 0) s fun n => .ptr n (nat_lit 0)
  | .build t ps => .mk fun call cx s => same s (buildS P s t ps)
  | .buildSlice t n ps => .mk fun call cx s => buildRow P s t n ps
  | .load t a => .mk fun call cx s => same s (bindO (opv s.env a) fun p => loadS P s.heap t p)
  | .store t a x => .mk fun call cx s => storeOp P cx s t a x
  | .nilCheck x => .mk fun call cx s => same s (nilS s.env x)
  | .binOp op t x y _ => .mk fun call cx s => same s (bindO (opv s.env x) fun a => bindO (opv s.env y) fun b => binS P op t x y a b)
  | .unOp op _ x => .mk fun call cx s => same s (unS P s.env op x)
  | .convert src dst x => .mk fun call cx s => bindO (opv s.env x) fun v => convS P cx src dst v s
  | .makeFunc fn first caps => .mk fun call cx s => same s (funcS s.env fn first caps)
  | .makeSlice t l c => .mk fun call cx s => makeRow P s t l c
  | .slice t x lo hi mx => .mk fun call cx s => same s (sliceOp P s.heap s.env t x lo hi mx)
  | .fieldAddr t x f => .mk fun call cx s => same s (fieldAddrS P s.env t x f)
  | .field t x f => .mk fun call cx s => same s (fieldS P s.env t x f)
  | .indexAddr t x i => .mk fun call cx s => same s (indexAddrS P s.env t x i)
  | .index t x i => .mk fun call cx s => same s (indexS P s.env t x i)
  | .extract t i => .mk fun call cx s => same s (extractS s.env t i)
  | .call c => .mk fun call cx s => callS P call cx c o.type s
  | .makeInterface t x => .mk fun _ _ s => same s (bindO (opv s.env x) fun v => bindO v.flat fun u => pureOp P (Instr.makeInterface t u))
  | .defer c => .mk fun call cx s => deferS c s
  | _ => .mk fun _ _ _ => none
def exOp (call : Caller) (cx : Cx) (o : Oper) (s : St) : Option (SV × St) := (comp P o).run call cx s
def T.strict {α : Type} (t : T) (K : T → α) : α := T.rec (motive := fun _ => α) (K .nil) (fun j x => K (.leaf j x)) (fun a b c d _ _ _ _ => K (.node a b c d)) t
def putSt (cx : Cx) (d : Option Tmp) (v : SV) (s : St) : Option St := Option.rec (some s) (fun k => guardO (Nat.ble (Nat.succ k) cx.N) (s.on fun env heap n log defs => (env.put k v).strict fun env => some ⟨env, heap, n, log, defs⟩)) d
def wantedS (ops : Array Oper) (o : Oper) (env : T) : Option Bool := Option.rec (some true) (fun g => bindO (bindO ops[g.1]? fun o => o.dst) fun d => bindO (env.get d) fun v => match v with
  | .v (.bool b) => some (b == g.2)
  | .v _ => some false
  | _ => none) o.guard
def stepOp (call : Caller) (cx : Cx) (ops : Array Oper) (o : Oper) (s : St) : Option St := bindO (wantedS ops o s.env) fun w =>
  ifB w (bindO (exOp P call cx o s) fun r => putSt cx o.dst r.1 r.2) (putSt cx o.dst (.v undef) s)
def exOps (call : Caller) (cx : Cx) (ops : Array Oper) (l : List Oper) : St → Option St := List.rec (motive := fun _ => St → Option St) (fun s => some s) (fun o _ ih s => bindO (stepOp P call cx ops o s) ih) l
/-! ### A region whose order is open: each operation is run on what no other one that may come before or behind it touches -/
/-- What an operation laid ([lo, hi)), wrote and could see. -/
structure Rc where
  idx : Nat
  lo : Nat
  hi : Nat
  wr : List Nat
  vis : List Nat
def memN (b : Nat) (l : List Nat) : Bool := List.rec false (fun a _ ih => ifB (Nat.beq a b) true ih) l
def hasBit (m i : Nat) : Bool := ifB (Nat.beq (Nat.mod (Nat.shiftRight m i) (nat_lit 2)) (nat_lit 0)) false true
/-- Those that need not have come before. -/
def unord (bj : Nat) (rs : List Rc) : List Rc := List.rec [] (fun r _ ih => ifB (hasBit bj r.idx) ih (r :: ih)) rs
def touched (r : Rc) (b : Nat) : Bool := ifB (ifB (Nat.ble r.lo b) (Nat.ble (Nat.succ b) r.hi) false) true (memN b r.wr)
def hidden (us : List Rc) (b : Nat) : Bool := List.rec false (fun r _ ih => ifB (touched r b) true ih) us
def viewAll (us : List Rc) (l : List Hp) : List Hp := List.rec [] (fun h _ ih => ifB (hidden us h.id) ih (h :: ih)) l
def viewOne (us : List Rc) (l : List Hp) (b : Nat) : List Hp := ifB (hidden us b) [] (Option.rec [] (fun bl => [⟨b, bl⟩]) (hget l b))
def viewPtr (us : List Rc) (l : List Hp) (env : T) (a : Operand) : List Hp := Option.rec [] (fun p => match p with
  | .ptr b _ => viewOne us l b
  | _ => []) (opv env a)
def viewOf (us : List Rc) (l : List Hp) (env : T) (op : Op) : List Hp := match op with
  | .load _ a | .store _ a _ => viewPtr us l env a
  | .call _ | .convert .. => List.rec l (fun _ _ _ => viewAll us l) us
  | _ => []
def idsOf (l : List Hp) : List Nat := List.rec [] (fun h _ ih => h.id :: ih) l
/-- Names laid from n on. -/
def newer (n : Nat) (l : List Hp) : List Hp := List.rec [] (fun h _ ih => ifB (Nat.ble n h.id) (h :: ih) []) l
def update (view : List Hp) (L : List Nat) (l : List Hp) : List Hp := List.rec l (fun b _ ih => Option.rec (hdel ih b) (fun bl => hset ih b bl) (hget view b)) L
/-- Nothing that was written was seen by one that need not have come before. -/
def unseen (us : List Rc) (L : List Nat) : Bool := List.rec true (fun b _ ih => ifB (List.rec false (fun r _ ih => ifB (memN b r.vis) true ih) us) false ih) L
mutual
/-- No name of [lo, hi) occurs. -/
def SV.avoids (lo hi : Nat) : SV → Bool
  | .v _ => true
  | .ptr b _ => ifB (Nat.ble lo b) (Nat.ble hi b) true
  | .sl b _ _ _ => ifB (Nat.ble lo b) (Nat.ble hi b) true
  | .fn _ a c => ifB (avoidAll lo hi a) (avoidAll lo hi c) false
  | .agg cs => avoidAll lo hi cs
  | .tup cs => avoidAll lo hi cs
def avoidAll (lo hi : Nat) : List SV → Bool
  | [] => true
  | x :: l => ifB (x.avoids lo hi) (avoidAll lo hi l) false
end
def cleanV (us : List Rc) (v : SV) : Bool := List.rec true (fun r _ ih => ifB (v.avoids r.lo r.hi) ih false) us
def cleanB (us : List Rc) (l : List Hp) : Bool := List.rec true (fun h _ ih => ifB (List.rec true (fun r _ ih => ifB (avoidAll r.lo r.hi h.b.cells) ih false) us) ih false) l
def written (view : List Hp) (L : List Nat) : List Hp := List.rec [] (fun b _ ih => Option.rec ih (fun bl => ⟨b, bl⟩ :: ih) (hget view b)) L
def isDefer (op : Op) : Bool := match op with
  | .defer _ => true
  | _ => false
abbrev Dr := St × List Rc
def drawRun (call : Caller) (ops : Array Oper) (j bj : Nat) (o : Oper) (cx : Cx) (d : Dr) (us : List Rc) (view : List Hp) : Option Dr := d.1.on fun env heap n log defs =>
  bindO (exOp P call ⟨n, cx.N⟩ o ⟨env, view, n, [], defs⟩) fun r => r.2.on fun _ h1 n1 L _ =>
    guardO (unseen us L) (guardO (cleanV us r.1) (guardO (cleanB us (newer n h1)) (guardO (cleanB us (written h1 L))
      (bindO (putSt cx o.dst r.1 ⟨env, newer n h1 ++ update h1 L heap, n1, olds cx.base L ++ log, defs⟩) fun s => some (s, ⟨j, n, n1, L, idsOf view⟩ :: d.2)))))
def drawOp (call : Caller) (ops : Array Oper) (j bj : Nat) (o : Oper) (cx : Cx) (d : Dr) : Option Dr := guardO (Bool.not (isDefer o.op)) (bindO (wantedS ops o d.1.env) fun w =>
  ifB w (drawRun P call ops j bj o cx d (unord bj d.2) (viewOf (unord bj d.2) d.1.heap d.1.env o.op))
    (bindO (putSt cx o.dst (.v undef) d.1) fun s => some (s, ⟨j, d.1.n, d.1.n, [], []⟩ :: d.2)))
def exDrawL (call : Caller) (cx : Cx) (ops : Array Oper) (l : List (Oper × Nat)) : Nat → Dr → Option Dr := List.rec (motive := fun _ => Nat → Dr → Option Dr) (fun _ d => some d)
  (fun o _ ih j d => bindO (drawOp P call ops j o.2 o.1 cx d) fun d => force (Nat.succ j) fun j => ih j d) l
/-- Two operations of which neither waits for the other keep off each other's slots. -/
def slotsOK (ops : Array Oper) (l : List (Oper × Nat)) : Bool := l.zipIdx.all fun x => l.zipIdx.all fun y => Nat.ble y.2 x.2 || (hasBit y.1.2 x.2 || (x.1.1.apart ops y.1.1))
def edgesOK (l : List (Oper × Nat)) : Bool := l.zipIdx.all fun x => x.1.1.after.all fun e => !Region.binds .any e || (Nat.ble (Nat.succ e.on) x.2 && (hasBit x.1.2 e.on && l.zipIdx.all fun y => !(Nat.beq y.2 e.on) || l.zipIdx.all fun z => !(hasBit y.1.2 z.2) || hasBit x.1.2 z.2))
/-- What hangs on the region alone: the operations, each with those that come before it. -/
def planOf (ops : Array Oper) : Option (List (Oper × Nat)) := let l := ops.toList.zip (Region.before ops).toList
  guardO (Nat.beq l.length ops.size) (guardO (Region.noSelect ops) (guardO (slotsOK ops l) (guardO (edgesOK l) (some l))))
def exDraw (call : Caller) (cx : Cx) (ops : Array Oper) (s : St) : Option St := bindO (planOf ops) fun l => bindO (exDrawL P call cx ops l (nat_lit 0) (s, [])) fun d => some d.1
inductive X where
  | normal
  | exit (id : Nat)
  | goto (l : Nat)
  | ret
inductive Task where
  | code (c : Code)
  | looping (c : Code)
  | inScope (c cur : Code)
abbrev Self := Cx → Task → St → Option (X × St)
def resV (s : St) (r : ResultVar) : Option SV := match r with
  | .tmp t => s.env.get t
  | .cell a t => bindO (s.env.get a) fun p => loadS P s.heap t p
def oneS (l : List SV) : SV := match l with
  | [x] => x
  | l => .tup l
/-- A function's body, from its arguments on. -/
def exFn (self : Self) (f : Nat) (args : List SV) (s : St) : Option (FnI × St) := bindO (fnOf P f) fun fi =>
  bindO (self ⟨s.n, fi.ntmps⟩ (.code fi.body) ⟨T.ofList args (nat_lit 0) .nil, s.heap, s.n, [], []⟩) fun r => match r.1 with
    | .normal | .ret => some (fi, r.2)
    | _ => none
def runDef (self : Self) (d : Nat × List SV) (s : St) : Option St := bindO (exFn P self d.1 d.2 s) fun r => guardO (List.isEmpty r.2.defs) (bindO (mapO (resV P r.2) r.1.results) fun _ => some ⟨s.env, r.2.heap, r.2.n, s.log ++ r.2.log, s.defs⟩)
def exDefs (self : Self) (l : List (Nat × List SV)) : St → Option St := List.rec (motive := fun _ => St → Option St) (fun s => some s) (fun d _ ih s => bindO (runDef P self d s) ih) l
def leave (cx : Cx) (s s2 : St) (r : SV) (log : List Nat) : Option (SV × St) := some (r, ⟨s.env, ifB (ifB r.isFlat (List.isEmpty log) false) (hdrop s2.heap s.n) s2.heap, s2.n, olds cx.base log ++ s.log, s.defs⟩)
def enter (self : Self) : Caller := fun cx f args s => bindO (exFn P self f args s) fun r => bindO (exDefs P self r.2.defs r.2) fun s2 => bindO (mapO (resV P s2) r.1.results) fun vs => leave cx s s2 (oneS vs) (olds s.n s2.log)
def exCall (self : Self) : Caller := fun cx f args s => Option.rec (enter P self cx f args s) (fun v => some (v, s)) (ora f args s.heap)
def andThen (r : Option (X × St)) (K : St → Option (X × St)) : Option (X × St) := bindO r fun r => match r.1 with
  | .normal => K r.2
  | x => some (x, r.2)
def condC (v : SV) (a b : Code) : Option Code := match v with
  | .v (.bool t) => some (ifB t a b)
  | _ => none
def blockX (id : Nat) (r : X × St) : Option (X × St) := match r.1 with
  | .exit j => some (ifB (Nat.beq j id) .normal (.exit j), r.2)
  | x => some (x, r.2)
def scopeX (self : Self) (cx : Cx) (c : Code) (r : X × St) : Option (X × St) := match r.1 with
  | .goto l => Option.rec (some (.goto l, r.2)) (fun rest => self cx (.inScope c rest) r.2) (findLabel c l)
  | x => some (x, r.2)
def exCode (self : Self) (cx : Cx) (c : Code) (s : St) : Option (X × St) := match c with
  | .skip | .label _ => some (.normal, s)
  | .region _ ops false => bindO (exOps P (exCall P ora self) cx ops ops.toList s) fun s => some (.normal, s)
  | .region _ ops true => bindO (exDraw P (exCall P ora self) cx ops s) fun s => some (.normal, s)
  | .seq a b => andThen (self cx (.code a) s) fun s => self cx (.code b) s
  | .cond c a b => bindO (opv s.env c) fun v => bindO (condC v a b) fun c => self cx (.code c) s
  | .block id b => bindO (self cx (.code b) s) (blockX id)
  | .loop b => self cx (.looping b) s
  | .exit id => some (.exit id, s)
  | .scope b => self cx (.inScope b b) s
  | .goto l => some (.goto l, s)
  | .ret => some (.ret, s)
  | _ => none
def exBody (self : Self) : Self := fun cx t s => match t with
  | .code c => exCode P ora self cx c s
  | .looping b => andThen (self cx (.code b) s) fun s => self cx (.looping b) s
  | .inScope c cur => bindO (self cx (.code cur) s) (scopeX self cx c)
def ex (n : Nat) : Self := Nat.rec (fun _ _ _ => none) (fun _ ih => exBody P ora ih) n
/-- A closed call. -/
def exRun (n : Nat) (f : Nat) (args : List SV) (H : List Hp) : Option SV := bindO (exCall P ora (ex P ora n) ⟨nat_lit 4096, nat_lit 0⟩ f args ⟨.nil, H, nat_lit 4096, [], []⟩) fun r => guardO (List.isEmpty r.2.log) (some r.1)
end
end
end Go.Ex
