/- The abstract layer LV: abstract values that carry their content, the typed code, and its evaluation (one region at a time). Definitions alone. -/
import GoSem.Core.Code
import GoSem.Core.Float
import GoSem.Op.Unary
namespace Go.Proofs.LV
open Go
set_option linter.unusedVariables false

/-! ## Numbers -/

/-- The one word that stands for every not-a-number. -/
def fnan : FloatKind → Nat
  | .f32 => 2143289344
  | .f64 => 9221120237041090560
/-- A word, all not-a-numbers as one. -/
def canon (k : FloatKind) (b : Nat) : Nat := if (k.format.read b).isNaN then fnan k else b
def fadd (k : FloatKind) (x y : Nat) : Nat := (k.format.add x y).getD (fnan k)
def fsub (k : FloatKind) (x y : Nat) : Nat := (k.format.sub x y).getD (fnan k)
def fmul (k : FloatKind) (x y : Nat) : Nat := (k.format.mul x y).getD (fnan k)
def fdiv (k : FloatKind) (x y : Nat) : Nat := (k.format.div x y).getD (fnan k)
def fneg (k : FloatKind) (x : Nat) : Nat := if (k.format.read x).isNaN then fnan k else Op.negFloat k x
def flt (k : FloatKind) (x y : Nat) : Bool := k.format.order x y == some .lt
def fgt (k : FloatKind) (x y : Nat) : Bool := k.format.order x y == some .gt
def fle (k : FloatKind) (x y : Nat) : Bool := k.format.order x y == some .lt || k.format.order x y == some .eq
def fge (k : FloatKind) (x y : Nat) : Bool := k.format.order x y == some .gt || k.format.order x y == some .eq
def feq (k : FloatKind) (x y : Nat) : Bool := k.format.order x y == some .eq
def fne (k : FloatKind) (x y : Nat) : Bool := k.format.order x y != some .eq
/-- the greater of two, as the builtin has it -/
def fmax (k : FloatKind) (x y : Nat) : Nat :=
  match k.format.order x y with
  | none => fnan k
  | some .lt => y
  | some .gt => x
  | some .eq => if (k.decode x).neg then y else x
/-- the lesser of two, as the builtin has it -/
def fmin (k : FloatKind) (x y : Nat) : Nat :=
  match k.format.order x y with
  | none => fnan k
  | some .lt => x
  | some .gt => y
  | some .eq => if (k.decode x).neg then x else y
/-- a number of an integer -/
def fofi (k : FloatKind) (n : Int) : Nat := k.nearest n
/-- the same number in the other format -/
def fconv (s d : FloatKind) (x : Nat) : Nat :=
  if s = d then x else match s.decode x with
  | .nan _ _ => fnan d
  | .infinity n => d.encode (.infinity n)
  | .number n m e => d.encode (.number n m e)
/-- it does not pass the greatest number -/
def fconvOk (s d : FloatKind) (x : Nat) : Bool :=
  if s = d then true else match s.decode x with
  | .number n m e => !(d.decode (d.encode (.number n m e))).isInfinity
  | _ => true
/-- what is left of a number as an integer, none if it has none in the range -/
def ftoi (s : FloatKind) (d : IntKind) (x : Nat) : Option Int :=
  match (s.decode x).toInt .zero with
  | some n => if d.min ≤ n ∧ n ≤ d.max then some n else none
  | none => none

/-! ## Abstract values -/

inductive Tag where
  | nil
  | imm
  | ro
  | par (path : List Nat)
  | own (n : Nat)
  | row (n id : Nat)

def Tag.beq : Tag → Tag → Bool
  | .imm, .imm => true
  | .par p, .par q => p == q
  | .own n, .own m => n == m
  | _, _ => false

inductive Cont where
  | f (k : FloatKind) (xs : List Nat)
  | i (k : IntKind) (xs : List Int)
  | b (xs : List Bool)
  | c (k : FloatKind) (xs : List (Nat × Nat))
  | ff (k : FloatKind) (xs : List (List Nat))

inductive AV where
  | any
  | b (x : Bool)
  | i (k : IntKind) (n : Int)
  | f (k : FloatKind) (x : Nat)
  | c (k : FloatKind) (re im : Nat)
  | sl (g : Tag) (off : Nat) (xs : Cont)
  | bx (g : Tag) (cells : List AV)
  | ad (g : Tag) (idx : Nat) (x : AV)
  | agg (cells : List AV)
  | tup (xs : List AV)
  | fn (f : FuncId) (caps : List AV)
  /-- a list of lists of one's own: object n from cell 'base' on; the row at cell i is the object's row i; at 'hole' nothing is told -/
  | nw (n base : Nat) (k : FloatKind) (xss : List (List Nat)) (hole : Option Nat)
  /-- the address of a cell of such a list -/
  | na (n idx : Nat) (k : FloatKind) (hole : Option Nat) (x : AV)

def Cont.len : Cont → Nat
  | .f _ xs => xs.length
  | .i _ xs => xs.length
  | .b xs => xs.length
  | .c _ xs => xs.length
  | .ff _ xs => xs.length
def Cont.get (j : Nat) : Cont → AV
  | .f k xs => .f k (xs.getD j 0)
  | .i k xs => .i k (xs.getD j 0)
  | .b xs => .b (xs.getD j false)
  | .c k xs => .c k (xs.getD j (0, 0)).1 (xs.getD j (0, 0)).2
  | .ff k xs => .sl .imm 0 (.f k (xs.getD j []))
def Cont.app : Cont → Cont → Option Cont
  | .f k xs, .f k' ys => if k = k' then some (.f k (xs ++ ys)) else none
  | .i k xs, .i k' ys => if k = k' then some (.i k (xs ++ ys)) else none
  | .b xs, .b ys => some (.b (xs ++ ys))
  | .c k xs, .c k' ys => if k = k' then some (.c k (xs ++ ys)) else none
  | .ff k xs, .ff k' ys => if k = k' then some (.ff k (xs ++ ys)) else none
  | _, _ => none
/-- one more ahead -/
def Cont.of : AV → Cont → Option Cont
  | .f k x, .f k' ys => if k = k' then some (.f k (x :: ys)) else none
  | .i k x, .i k' ys => if k = k' then some (.i k (x :: ys)) else none
  | .b x, .b ys => some (.b (x :: ys))
  | .c k x y, .c k' ys => if k = k' then some (.c k ((x, y) :: ys)) else none
  | .sl .imm _ (.f k xs), .ff k' ys => if k = k' then some (.ff k (xs :: ys)) else none
  | _, _ => none
def Cont.set (j : Nat) : AV → Cont → Option Cont
  | .f k x, .f k' ys => if k = k' then some (.f k (ys.set j x)) else none
  | .i k x, .i k' ys => if k = k' then some (.i k (ys.set j x)) else none
  | .b x, .b ys => some (.b (ys.set j x))
  | .c k x y, .c k' ys => if k = k' then some (.c k (ys.set j (x, y))) else none
  | _, _ => none
/-- from lo on, n of them -/
def Cont.sub (lo n : Nat) : Cont → Cont
  | .f k xs => .f k ((xs.drop lo).take n)
  | .i k xs => .i k ((xs.drop lo).take n)
  | .b xs => .b ((xs.drop lo).take n)
  | .c k xs => .c k ((xs.drop lo).take n)
  | .ff k xs => .ff k ((xs.drop lo).take n)
/-- n times a zero -/
def Cont.rep (n : Nat) : AV → Option Cont
  | .f k x => some (.f k (List.replicate n x))
  | .i k x => some (.i k (List.replicate n x))
  | .b x => some (.b (List.replicate n x))
  | .c k x y => some (.c k (List.replicate n (x, y)))
  | _ => none

def Tag.names (g : Tag) (n : Nat) : Bool := match g with | .own m => m == n | .row m _ => m == n | _ => false

mutual
/-- does it speak of object n? -/
def AV.has (n : Nat) : AV → Bool
  | .sl g _ _ => g.names n
  | .bx g cells => g.names n || AV.hasL n cells
  | .ad g _ x => g.names n || AV.has n x
  | .agg cells => AV.hasL n cells
  | .tup xs => AV.hasL n xs
  | .fn _ caps => AV.hasL n caps
  | .nw m _ _ _ _ => m == n
  | .na m _ _ _ x => m == n || AV.has n x
  | _ => false
def AV.hasL (n : Nat) : List AV → Bool
  | [] => false
  | x :: r => AV.has n x || AV.hasL n r
end

mutual
/-- what it reads once cell j of object g holds x -/
def AV.upd (g : Tag) (j : Nat) (x : AV) : AV → AV
  | .sl g' off xs => if g'.beq g then (if off ≤ j then (match Cont.set (j - off) x xs with | some ys => .sl g' off ys | none => .any) else .sl g' off xs) else .sl g' off xs
  | .bx g' cells => if g'.beq g then .bx g' ((AV.updL g j x cells).set j x) else .bx g' (AV.updL g j x cells)
  | .ad g' idx y => if g'.beq g then (if idx == j then .ad g' idx x else .ad g' idx (AV.upd g j x y)) else .ad g' idx (AV.upd g j x y)
  | .agg cells => .agg (AV.updL g j x cells)
  | .tup xs => .tup (AV.updL g j x xs)
  | .fn h caps => .fn h (AV.updL g j x caps)
  | .nw m lo k xss h => bif g.names m then .any else .nw m lo k xss h
  | .na m ix k h y => bif g.names m then .any else .na m ix k h (AV.upd g j x y)
  | v => v
def AV.updL (g : Tag) (j : Nat) (x : AV) : List AV → List AV
  | [] => []
  | y :: r => AV.upd g j x y :: AV.updL g j x r
end

abbrev Env := List AV

def Env.scrub (n : Nat) (σ : Env) : Env := σ.map fun v => if v.has n then .any else v
def Env.upd (g : Tag) (j : Nat) (x : AV) (σ : Env) : Env := AV.updL g j x σ
def Env.updN (g : Tag) : Nat → List AV → Env → Env
  | _, [], σ => σ
  | j, x :: r, σ => Env.updN g (j + 1) r (Env.upd g j x σ)

/-! ### objects that change their names -/
def swn (n m k : Nat) : Nat := if k = n then m else if k = m then n else k
def Tag.rnm (n m : Nat) : Tag → Tag
  | .own k => .own (swn n m k)
  | .row k i => .row (swn n m k) i
  | g => g
mutual
def AV.rnm (n m : Nat) : AV → AV
  | .any => .any
  | .b x => .b x
  | .i k x => .i k x
  | .f k x => .f k x
  | .c k x y => .c k x y
  | .sl g off xs => .sl (g.rnm n m) off xs
  | .bx g cells => .bx (g.rnm n m) (AV.rnmL n m cells)
  | .ad g idx x => .ad (g.rnm n m) idx (AV.rnm n m x)
  | .agg cells => .agg (AV.rnmL n m cells)
  | .tup xs => .tup (AV.rnmL n m xs)
  | .fn h caps => .fn h (AV.rnmL n m caps)
  | .nw j lo k xss h => .nw (swn n m j) lo k xss h
  | .na j ix k h x => .na (swn n m j) ix k h (AV.rnm n m x)
def AV.rnmL (n m : Nat) : List AV → List AV
  | [] => []
  | x :: r => AV.rnm n m x :: AV.rnmL n m r
end
def Env.rnm (n m : Nat) (σ : Env) : Env := AV.rnmL n m σ

/-! ## The typed code -/

inductive Opd where
  | t (n : Nat)
  | k (v : AV)

inductive K where
  | mv | pick
  | bin (op : BinOp) | binb (op : BinOp) | not | neg
  | convI (k : IntKind) | convF (k : FloatKind)
  | iaddr | faddr (off : Nat) | load | loadN (n : Nat)
  | store | storeN (n : Nat)
  | alloc (cells : List AV) | box | boxN
  | lit (own : Bool) (e : Cont) | nilsl (e : Cont) | mksl (z : AV)
  | len | app | slice (lo hi mx : Bool)
  | extract (j : Nat) | nilck | aidx (n : Nat) | arr
  | call (f : FuncId) | callv
  | max | min
  | cplx | re | im
  | mkfn (f : FuncId)
  | convC (k : FloatKind)
  | isnil | build (z : List AV) (pos : List Nat)
  | copy

structure VStep where
  dst : Option Nat
  kd : K
  opds : List Opd
  guard : Option (Nat × Bool)

inductive VCode where
  | skip
  | region (draw : Bool) (ops : List VStep)
  | seq (a b : VCode)
  | cond (c : Opd) (a b : VCode)
  | block (id : Nat) (b : VCode)
  | loop (b : VCode)
  | exit (id : Nat)
  | ret
  | bad

/-! ## What an operation gives -/

/-- operations on the bits -/
def ibits (op : BinOp) (k : IntKind) (a b : Int) : Int :=
  k.wrap ((match op with
    | .and => BitVec.ofInt k.bits a &&& BitVec.ofInt k.bits b
    | .or => BitVec.ofInt k.bits a ||| BitVec.ofInt k.bits b
    | .xor => BitVec.ofInt k.bits a ^^^ BitVec.ofInt k.bits b
    | _ => BitVec.ofInt k.bits a &&& ~~~(BitVec.ofInt k.bits b)).toNat : Nat)
def bin : BinOp → AV → AV → Option (AV × Prop)
  | .add, .i k a, .i k' b => if k = k' then some (.i k (k.wrap (a + b)), True) else none
  | .sub, .i k a, .i k' b => if k = k' then some (.i k (k.wrap (a - b)), True) else none
  | .mul, .i k a, .i k' b => if k = k' then some (.i k (k.wrap (a * b)), True) else none
  | .quo, .i k a, .i k' b => if k = k' then some (.i k (k.wrap (a.tdiv b)), b ≠ 0) else none
  | .rem, .i k a, .i k' b => if k = k' then some (.i k (a.tmod b), b ≠ 0) else none
  | .eql, .i k a, .i k' b => if k = k' then some (.b (a == b), True) else none
  | .neq, .i k a, .i k' b => if k = k' then some (.b (a != b), True) else none
  | .lss, .i k a, .i k' b => if k = k' then some (.b (decide (a < b)), True) else none
  | .leq, .i k a, .i k' b => if k = k' then some (.b (decide (a ≤ b)), True) else none
  | .gtr, .i k a, .i k' b => if k = k' then some (.b (decide (a > b)), True) else none
  | .geq, .i k a, .i k' b => if k = k' then some (.b (decide (a ≥ b)), True) else none
  | .add, .f k a, .f k' b => if k = k' then some (.f k (fadd k a b), True) else none
  | .sub, .f k a, .f k' b => if k = k' then some (.f k (fsub k a b), True) else none
  | .mul, .f k a, .f k' b => if k = k' then some (.f k (fmul k a b), True) else none
  | .quo, .f k a, .f k' b => if k = k' then some (.f k (fdiv k a b), True) else none
  | .eql, .f k a, .f k' b => if k = k' then some (.b (feq k a b), True) else none
  | .neq, .f k a, .f k' b => if k = k' then some (.b (fne k a b), True) else none
  | .lss, .f k a, .f k' b => if k = k' then some (.b (flt k a b), True) else none
  | .leq, .f k a, .f k' b => if k = k' then some (.b (fle k a b), True) else none
  | .gtr, .f k a, .f k' b => if k = k' then some (.b (fgt k a b), True) else none
  | .geq, .f k a, .f k' b => if k = k' then some (.b (fge k a b), True) else none
  | .add, .c k a b, .c k' c d => if k = k' then some (.c k (fadd k a c) (fadd k b d), True) else none
  | .sub, .c k a b, .c k' c d => if k = k' then some (.c k (fsub k a c) (fsub k b d), True) else none
  | .eql, .c k a b, .c k' c d => if k = k' then some (.b (feq k a c && feq k b d), True) else none
  | .neq, .c k a b, .c k' c d => if k = k' then some (.b (!(feq k a c && feq k b d)), True) else none
  | .shr, .i k a, .i _ b => some (.i k (a.fdiv (2 ^ b.toNat)), 0 ≤ b ∧ b.toNat ≤ k.bits)
  | .and, .i k a, .i k' b => if k = k' then some (.i k (ibits .and k a b), True) else none
  | .or, .i k a, .i k' b => if k = k' then some (.i k (ibits .or k a b), True) else none
  | .xor, .i k a, .i k' b => if k = k' then some (.i k (ibits .xor k a b), True) else none
  | .andNot, .i k a, .i k' b => if k = k' then some (.i k (ibits .andNot k a b), True) else none
  | _, _, _ => none

def binb : BinOp → AV → AV → Option AV
  | .eql, .b a, .b b => some (.b (a == b))
  | .neq, .b a, .b b => some (.b (!(a == b)))
  | _, _, _ => none

def litOf (e : Cont) : List AV → Option Cont
  | [] => some e
  | x :: r => match litOf e r with | some c => Cont.of x c | none => none

mutual
/-- an argument as the called function sees it -/
def AV.view (p : List Nat) : AV → AV
  | .sl _ _ xs => .sl (.par p) 0 xs
  | .bx _ cells => .bx (.par p) (AV.viewL p 0 cells)
  | .ad _ _ x => .bx (.par p) [AV.view (p ++ [0]) x]
  | .agg cells => .agg (AV.viewL p 0 cells)
  | .tup xs => .tup (AV.viewL p 0 xs)
  | .fn h caps => .fn h (AV.viewL p 0 caps)
  | .nw _ _ k xss none => .sl (.par p) 0 (.ff k xss)
  | .nw _ _ _ _ (some _) => .any
  | .na _ _ _ _ _ => .any
  | v => v
def AV.viewL (p : List Nat) (j : Nat) : List AV → List AV
  | [] => []
  | x :: r => AV.view (p ++ [j]) x :: AV.viewL p (j + 1) r
end

mutual
/-- no unknown part -/
def AV.known : AV → Bool
  | .any => false
  | .bx _ cells => AV.knownL cells
  | .ad _ _ x => AV.known x
  | .agg cells => AV.knownL cells
  | .tup xs => AV.knownL xs
  | .fn _ caps => AV.knownL caps
  | .nw _ _ _ _ (some _) => false
  | .na _ _ _ _ _ => false
  | _ => true
def AV.knownL : List AV → Bool
  | [] => true
  | x :: r => AV.known x && AV.knownL r
end

/-- the part of the arguments to which a path leads -/
def AV.sel : AV → List Nat → AV
  | v, [] => v
  | .bx _ cells, j :: p => AV.sel (cells.getD j .any) p
  | .agg cells, j :: p => AV.sel (cells.getD j .any) p
  | .tup cells, j :: p => AV.sel (cells.getD j .any) p
  | .fn _ cells, j :: p => AV.sel (cells.getD j .any) p
  | .ad _ _ x, 0 :: p => AV.sel x p
  | _, _ :: _ => .any

def AV.tagOff : AV → Option (Tag × Nat)
  | .sl g off _ => some (g, off)
  | .bx g _ => some (g, 0)
  | .ad g idx _ => some (g, idx)
  | .nw n lo _ _ _ => some (.own n, lo)
  | _ => none

mutual
/-- a result as the caller sees it: own j is object 8 d + j, par p is the argument's -/
def AV.back (d : Nat) (args : List AV) : AV → AV
  | .sl .nil off xs => .sl .nil off xs
  | .sl .imm off xs => .sl .imm off xs
  | .sl .ro _ _ => .any
  | .sl (.own j) off xs => if j < 8 then .sl (.own (8 * d + j)) off xs else .any
  | .sl (.par p) off xs => match (AV.sel (.tup args) p).tagOff with | some (g, o) => .sl g (o + off) xs | none => .any
  | .agg cells => .agg (AV.backL d args cells)
  | .tup xs => .tup (AV.backL d args xs)
  | .bx (.own j) cells => if j < 8 then .bx (.own (8 * d + j)) (AV.backL d args cells) else .any
  | .bx _ _ => .any
  | .ad _ _ _ => .any
  | .fn _ _ => .any
  | .sl (.row _ _) _ _ => .any
  | .nw j lo k xss h => if j < 8 then .nw (8 * d + j) lo k xss h else .any
  | .na _ _ _ _ _ => .any
  | v => v
def AV.backL (d : Nat) (args : List AV) : List AV → List AV
  | [] => []
  | x :: r => AV.back d args x :: AV.backL d args r
end

/-- the objects that a call at d may bring -/
def callNames (d : Nat) : List Nat := [8 * d, 8 * d + 1, 8 * d + 2, 8 * d + 3, 8 * d + 4, 8 * d + 5, 8 * d + 6, 8 * d + 7]

abbrev Out := Option (AV × List Nat × Prop)
def eMv : List AV → Out | [x] => some (x, [], True) | _ => none
def ePick : List AV → Out | [.b c, x, y] => some (bif c then x else y, [], True) | _ => none
def eBin (op : BinOp) : List AV → Out | [x, y] => (match bin op x y with | some (v, o) => some (v, [], o) | none => none) | _ => none
def eBinb (op : BinOp) : List AV → Out | [x, y] => (match binb op x y with | some v => some (v, [], True) | none => none) | _ => none
def eNot : List AV → Out | [.b x] => some (.b (!x), [], True) | _ => none
def eNeg : List AV → Out | [.i k n] => some (.i k (k.wrap (0 - n)), [], True) | [.f k x] => some (.f k (fneg k x), [], True) | _ => none
def eConvI (k : IntKind) : List AV → Out
  | [.i _ n] => some (.i k (k.wrap n), [], True)
  | [.f s x] => some (.i k ((ftoi s k x).getD 0), [], (ftoi s k x).isSome = true)
  | _ => none
def eConvF (k : FloatKind) : List AV → Out
  | [.i _ n] => some (.f k (fofi k n), [], True)
  | [.f s x] => some (.f k (fconv s k x), [], fconvOk s k x = true)
  | _ => none
def eConvC (k : FloatKind) : List AV → Out
  | [.c s x y] => some (.c k (fconv s k x) (fconv s k y), [], fconvOk s k x = true ∧ fconvOk s k y = true)
  | _ => none
/-- a row of a list of lists -/
def rowAt (n i : Nat) (k : FloatKind) (xs : List Nat) : Option Nat → AV
  | none => .sl (.row n i) 0 (.f k xs)
  | some _ => .any
def eIaddr : List AV → Out
  | [.sl g off xs, .i _ n] => some (.ad g (off + n.toNat) (xs.get n.toNat), [], 0 ≤ n ∧ n < xs.len)
  | [.nw m lo k xss h, .i _ n] => some (.na m (lo + n.toNat) k h (rowAt m (lo + n.toNat) k (xss.getD n.toNat []) h), [], 0 ≤ n ∧ n < xss.length)
  | _ => none
def eFaddr (o : Nat) : List AV → Out | [.bx g cells] => (match cells[o]? with | some x => some (.ad g o x, [], True) | none => none) | _ => none
def eLoad : List AV → Out | [.ad _ _ x] => some (x, [], True) | [.na _ _ _ _ x] => some (x, [], True) | [.bx _ [x]] => some (x, [], True) | _ => none
def eLoadN (n : Nat) : List AV → Out | [.bx _ cells] => if cells.length = n then some (.agg cells, [], True) else none | _ => none
def eAlloc (d : Nat) (cells : List AV) : List AV → Out | [] => some (.bx (.own (8 * d)) cells, [8 * d], True) | _ => none
/-- it is one cell -/
def AV.single : AV → Bool
  | .any => false
  | .agg _ => false
  | .tup _ => false
  | _ => true
def eBox (d : Nat) : List AV → Out | [x] => if x.single = true then some (.bx (.own (8 * d)) [x], [8 * d], x.has (8 * d) = false) else none | _ => none
def eBoxN (d : Nat) : List AV → Out | [.agg cells] => some (.bx (.own (8 * d)) cells, [8 * d], AV.hasL (8 * d) cells = false) | _ => none
/-- rows of one's own, as parts of a literal -/
def rowsOf (k : FloatKind) : List AV → Option (List Nat × List (List Nat))
  | [] => some ([], [])
  | .sl (.own m) 0 (.f q xs) :: r => if q = k then (match rowsOf k r with | some (ms, xss) => some (m :: ms, xs :: xss) | none => none) else none
  | _ :: _ => none
/-- the names from here on are those of arguments that are written -/
abbrev HI : Nat := 800000
def eLit (d : Nat) (own : Bool) (e : Cont) (xs : List AV) : Out :=
  match own, e with
  | true, .ff k _ => (match xs with
    | [] => some (.nw (8 * d) 0 k [] none, [8 * d], True)
    | _ => none)
  | _, _ => match litOf e xs with | some c => some (.sl (bif own then .own (8 * d) else .imm) 0 c, bif own then [8 * d] else [], True) | none => none
def eNilsl (e : Cont) : List AV → Out | [] => some (.sl .nil 0 (e.sub 0 0), [], True) | _ => none
def eMksl (d : Nat) (z : AV) : List AV → Out
  | [.i _ n, .i _ m] => (match z with
    | .sl .imm _ (.f k []) => some (.nw (8 * d) 0 k (List.replicate n.toNat []) none, [8 * d], n = m ∧ 0 ≤ n ∧ n ≤ 4294967296)
    | z => match Cont.rep n.toNat z with | some c => some (.sl (.own (8 * d)) 0 c, [8 * d], n = m ∧ 0 ≤ n ∧ n ≤ 4294967296) | none => none)
  | _ => none
def eLen : List AV → Out | [.sl _ _ xs] => some (.i .i64 xs.len, [], True) | [.nw _ _ _ xss _] => some (.i .i64 xss.length, [], True) | _ => none
def eApp (d : Nat) : List AV → Out
  | [.sl (.own n) 0 xs, .sl g _ ys] => if n < HI then (match Cont.app xs ys with | some c => some (.sl (.own n) 0 c, [n], xs.len + ys.len ≤ 4294967296) | none => none) else none
  | [.sl .nil _ xs, .sl g _ ys] => if g.names (8 * d) = false ∧ 8 * d < HI then (match Cont.app (xs.sub 0 0) ys with | some c => some (.sl (.own (8 * d)) 0 c, [8 * d], ys.len ≤ 4294967296) | none => none) else none
  | _ => none
def Cont.only : Cont → Cont → Option Cont
  | .f k _, .f k' ys => if k = k' then some (.f k ys) else none
  | .i k _, .i k' ys => if k = k' then some (.i k ys) else none
  | .b _, .b ys => some (.b ys)
  | .c k _, .c k' ys => if k = k' then some (.c k ys) else none
  | .ff k _, .ff k' ys => if k = k' then some (.ff k ys) else none
  | _, _ => none
/-- an append to what has no room -/
def eAppn (d : Nat) : List AV → Out
  | [.sl .nil _ xs, .sl g _ ys] => if g.names (8 * d) = false ∧ 8 * d < HI then (match Cont.only xs ys with | some c => some (.sl (.own (8 * d)) 0 c, [8 * d], ys.len ≤ 4294967296) | none => none) else none
  | _ => none
def eSlice : Bool → Bool → Bool → List AV → Out
  | true, true, false, [.sl g off xs, .i _ lo, .i _ hi] => some (.sl g (off + lo.toNat) (xs.sub lo.toNat (hi.toNat - lo.toNat)), [], 0 ≤ lo ∧ lo ≤ hi ∧ hi ≤ xs.len)
  | true, false, false, [.nw n b0 k xss h, .i _ lo] => some (.nw n (b0 + lo.toNat) k (xss.drop lo.toNat) h, [], 0 ≤ lo ∧ lo ≤ xss.length)
  | true, false, false, [.sl g off xs, .i _ lo] => some (.sl g (off + lo.toNat) (xs.sub lo.toNat (xs.len - lo.toNat)), [], 0 ≤ lo ∧ lo ≤ xs.len)
  | false, true, false, [.sl g off xs, .i _ hi] => some (.sl g off (xs.sub 0 hi.toNat), [], 0 ≤ hi ∧ hi ≤ xs.len)
  | false, true, true, [.sl g off xs, .i _ hi, .i _ mx] => some (.sl .nil 0 (xs.sub 0 0), [], hi = 0 ∧ mx = 0)
  | _, _, _, _ => none
def eExtract (j : Nat) : List AV → Out | [.tup xs] => (match xs[j]? with | some x => some (x, [], True) | none => none) | _ => none
def eNilck : List AV → Out | [.bx g cells] => some (.bx g cells, [], True) | _ => none
/-- a row of numbers, as a content -/
def contOf (cells : List AV) : Option Cont := match cells with
  | .i k _ :: _ => litOf (.i k []) cells
  | .f k _ :: _ => litOf (.f k []) cells
  | _ => none
def eAidx (l : Nat) : List AV → Out
  | [.agg cells, .i _ n] => if cells.length = l then (match contOf cells with | some c => some (c.get n.toNat, [], 0 ≤ n ∧ n < l) | none => none) else none
  | _ => none
def eMax : List AV → Out
  | [.i k x, .i k' y] => if k = k' then some (.i k (bif decide (y > x) then y else x), [], True) else none
  | [.f k x, .f k' y] => if k = k' then some (.f k (fmax k x y), [], True) else none
  | _ => none
def eMin : List AV → Out
  | [.i k x, .i k' y] => if k = k' then some (.i k (bif decide (y < x) then y else x), [], True) else none
  | [.f k x, .f k' y] => if k = k' then some (.f k (fmin k x y), [], True) else none
  | _ => none
def eCplx : List AV → Out | [.f k x, .f k' y] => if k = k' then some (.c k x y, [], True) else none | _ => none
def eRe : List AV → Out | [.c k x _] => some (.f k x, [], True) | _ => none
def eIm : List AV → Out | [.c k _ y] => some (.f k y, [], True) | _ => none

/-- a slice of some length is not nil -/
def eIsnil : List AV → Out | [.sl _ _ xs] => some (.b false, [], 1 ≤ xs.len) | _ => none
def setAll : List AV → List Nat → List AV → List AV
  | z, i :: is, x :: xs => setAll (z.set i x) is xs
  | z, _, _ => z
/-- a row of cells of which some are told -/
def eBuild (z : List AV) (pos : List Nat) (xs : List AV) : Out := if pos.length = xs.length ∧ xs.all AV.single = true ∧ (pos.all fun i => decide (i < z.length)) = true then some (.agg (setAll z pos xs), [], True) else none

/-- VALUE, OBJECTS THAT ARE TOLD ANEW, WHAT IS OWED. -/
def evalK (d : Nat) : K → List AV → Out
  | .mv, xs => eMv xs
  | .pick, xs => ePick xs
  | .bin op, xs => eBin op xs
  | .binb op, xs => eBinb op xs
  | .not, xs => eNot xs
  | .neg, xs => eNeg xs
  | .convI k, xs => eConvI k xs
  | .convF k, xs => eConvF k xs
  | .convC k, xs => eConvC k xs
  | .iaddr, xs => eIaddr xs
  | .faddr o, xs => eFaddr o xs
  | .load, xs => eLoad xs
  | .loadN n, xs => eLoadN n xs
  | .alloc cells, xs => eAlloc d cells xs
  | .box, xs => eBox d xs
  | .boxN, xs => eBoxN d xs
  | .lit own e, xs => eLit d own e xs
  | .nilsl e, xs => eNilsl e xs
  | .mksl z, xs => eMksl d z xs
  | .len, xs => eLen xs
  | .app, xs => eApp d xs
  | .arr, xs => eAppn d xs
  | .slice lo hi mx, xs => eSlice lo hi mx xs
  | .extract j, xs => eExtract j xs
  | .nilck, xs => eNilck xs
  | .aidx l, xs => eAidx l xs
  | .max, xs => eMax xs
  | .min, xs => eMin xs
  | .cplx, xs => eCplx xs
  | .re, xs => eRe xs
  | .im, xs => eIm xs
  | .mkfn f, xs => some (.fn f xs, [], True)
  | .isnil, xs => eIsnil xs
  | .build z pos, xs => eBuild z pos xs
  | _, _ => none

mutual
/-- no part of it is an argument's -/
def AV.parFree : AV → Bool
  | .sl (.par _) _ _ => false
  | .bx _ cells => AV.parFreeL cells
  | .agg cells => AV.parFreeL cells
  | .tup xs => AV.parFreeL xs
  | _ => true
def AV.parFreeL : List AV → Bool
  | [] => true
  | x :: r => AV.parFree x && AV.parFreeL r
end
mutual
/-- no part of it is memory that is only read -/
def AV.immFree : AV → Bool
  | .sl .imm _ _ => false
  | .sl .ro _ _ => false
  | .sl (.row _ _) _ _ => false
  | .sl _ _ (.ff _ _) => false
  | .na _ _ _ _ _ => false
  | .bx _ _ => false
  | .ad _ _ _ => false
  | .fn _ _ => false
  | .agg cells => AV.immFreeL cells
  | .tup xs => AV.immFreeL xs
  | _ => true
def AV.immFreeL : List AV → Bool
  | [] => true
  | x :: r => AV.immFree x && AV.immFreeL r
end

def dedup : List Nat → List Nat
  | [] => []
  | n :: r => n :: (dedup r).filter (fun m => !(m == n))
mutual
/-- the objects of a result, in order -/
def AV.nms : AV → List Nat
  | .sl (.own n) _ _ => [n]
  | .nw n _ _ _ _ => [n]
  | .bx (.own n) cells => n :: AV.nmsL cells
  | .agg cells => AV.nmsL cells
  | .tup xs => AV.nmsL xs
  | _ => []
def AV.nmsL : List AV → List Nat
  | [] => []
  | x :: r => AV.nms x ++ AV.nmsL r
end
/-- is it the word for a call that writes its arguments: the result, and what the arguments read as behind it -/
def AV.isM : AV → Bool
  | .bx .nil _ => true
  | _ => false
abbrev AV.M (r : AV) (outs : List AV) : AV := .bx .nil [r, .tup outs]

mutual
/-- no list of lists of one's own in it -/
def AV.nwFree : AV → Bool
  | .bx _ cells => AV.nwFreeL cells
  | .ad _ _ x => AV.nwFree x
  | .agg cells => AV.nwFreeL cells
  | .tup xs => AV.nwFreeL xs
  | .fn _ caps => AV.nwFreeL caps
  | .nw _ _ _ _ _ => false
  | .na _ _ _ _ _ => false
  | _ => true
def AV.nwFreeL : List AV → Bool
  | [] => true
  | x :: r => AV.nwFree x && AV.nwFreeL r
end
/-- a call: 'r' is what it is said to give, 'VC' the contracts -/
def evalCall (VC : FuncId → List AV → AV → Prop) (d : Nat) (r : AV) (f : FuncId) (xs : List AV) : Out :=
  if (r.isM = false ∧ (AV.nwFreeL xs || r.immFree) = true) ∧ AV.knownL xs = true ∧ (AV.parFree r || (callNames d).all fun n => !AV.hasL n xs) = true then some (AV.back d xs r, callNames d, VC f (AV.viewL [] 0 xs) r) else none

def Env.ev (σ : Env) : Opd → AV
  | .t n => σ.getD n .any
  | .k v => v
def Env.scrubs (ns : List Nat) (σ : Env) : Env := ns.foldl (fun σ n => σ.scrub n) σ

def Env.put (d : Option Nat) (v : AV) (σ : Env) : Env := match d with | some d => σ.set d v | none => σ

/-! ### calls that write their arguments -/
def Cont.flat : Cont → Bool
  | .ff _ _ => false
  | _ => true
/-- a cell of a struct that is handed on: a number, or a slice that is only read -/
def AV.cellIn : AV → Bool
  | .b _ => true
  | .i _ _ => true
  | .f _ _ => true
  | .c _ _ _ => true
  | .sl .nil _ xs => xs.flat
  | .sl .imm _ xs => xs.flat
  | .sl .ro _ xs => xs.flat
  | .sl (.par _) _ xs => xs.flat
  | _ => false
def AV.cellOut : AV → Bool
  | .b _ => true
  | .i _ _ => true
  | .f _ _ => true
  | .c _ _ _ => true
  | .sl .ro 0 xs => xs.flat
  | _ => false
def AV.cellRo : AV → AV
  | .sl _ _ xs => .sl .ro 0 xs
  | v => v
mutual
/-- an argument of such a call: numbers, functions, slices of one's own from their beginning -/
def AV.mOk : AV → Bool
  | .b _ => true
  | .i _ _ => true
  | .f _ _ => true
  | .c _ _ _ => true
  | .fn _ [] => true
  | .sl (.own _) 0 xs => xs.flat
  | .nw _ 0 _ _ none => true
  | .bx (.own _) cells => cells.all AV.cellIn
  | .agg cells => AV.mOkL cells
  | _ => false
def AV.mOkL : List AV → Bool
  | [] => true
  | x :: r => AV.mOk x && AV.mOkL r
end
mutual
def AV.mview (ns : List Nat) : AV → AV
  | .sl (.own n) _ xs => .sl (.own (HI + ns.idxOf n)) 0 xs
  | .nw n _ k xss _ => .nw (HI + ns.idxOf n) 0 k xss none
  | .bx (.own n) cells => .bx (.own (HI + ns.idxOf n)) (cells.map AV.cellRo)
  | .agg cells => .agg (AV.mviewL ns cells)
  | v => v
def AV.mviewL (ns : List Nat) : List AV → List AV
  | [] => []
  | x :: r => AV.mview ns x :: AV.mviewL ns r
end
/-- what an object reads as anew -/
inductive New where
  | sl (ys : Cont)
  | bx (cells : List AV)
  | nw (k : FloatKind) (xss : List (List Nat))
def New.good : New → Bool
  | .sl ys => ys.flat
  | .bx cells => cells.all AV.cellOut
  | .nw _ _ => true
mutual
/-- what object n reads as -/
def AV.newOf (n : Nat) : AV → Option New
  | .sl (.own m) 0 xs => bif m == n then some (.sl xs) else none
  | .bx (.own m) cells => bif m == n then some (.bx cells) else none
  | .nw m 0 k xss none => bif m == n then some (.nw k xss) else none
  | .agg cells => AV.newOfL n cells
  | _ => none
def AV.newOfL (n : Nat) : List AV → Option New
  | [] => none
  | x :: r => match AV.newOf n x with | some ys => some ys | none => AV.newOfL n r
end
def Tag.look (μ : Nat → Option New) : Tag → Option New
  | .own n => μ n
  | .row n _ => μ n
  | _ => none
mutual
/-- the objects that μ tells of read so from now on -/
def AV.swap (μ : Nat → Option New) : AV → AV
  | .sl g off xs => match g.look μ with | some (.sl ys) => (match g, off with | .own n, 0 => .sl (.own n) 0 ys | _, _ => .any) | some _ => .any | none => .sl g off xs
  | .bx g cells => match g.look μ with | some (.bx cs) => (match g with | .own n => .bx (.own n) cs | _ => .any) | some _ => .any | none => .bx g (AV.swapL μ cells)
  | .ad g idx x => match g.look μ with | some _ => .any | none => .ad g idx (AV.swap μ x)
  | .agg cells => .agg (AV.swapL μ cells)
  | .tup xs => .tup (AV.swapL μ xs)
  | .fn h caps => .fn h (AV.swapL μ caps)
  | .nw n lo k xss h => match μ n with | some (.nw q yss) => (match lo, h with | 0, none => .nw n 0 q yss none | _, _ => .any) | some _ => .any | none => .nw n lo k xss h
  | .na n ix k h x => match μ n with | some _ => .any | none => .na n ix k h (AV.swap μ x)
  | v => v
def AV.swapL (μ : Nat → Option New) : List AV → List AV
  | [] => []
  | x :: r => AV.swap μ x :: AV.swapL μ r
end
mutual
/-- the lengths that must be the same for that -/
def AV.lens (μ : Nat → Option New) : AV → List Prop
  | .sl g _ xs => match g.look μ with | some (.sl ys) => (match g with | .own _ => [xs.len = ys.len] | _ => []) | some _ => [] | none => []
  | .bx g cells => match g.look μ with | some _ => [] | none => AV.lensL μ cells
  | .ad g _ x => match g.look μ with | some _ => [] | none => AV.lens μ x
  | .agg cells => AV.lensL μ cells
  | .tup xs => AV.lensL μ xs
  | .fn _ caps => AV.lensL μ caps
  | .nw n _ _ xss _ => match μ n with | some (.nw _ yss) => [xss.length = yss.length] | some _ => [] | none => []
  | .na n _ _ _ x => match μ n with | some _ => [] | none => AV.lens μ x
  | _ => []
def AV.lensL (μ : Nat → Option New) : List AV → List Prop
  | [] => []
  | x :: r => AV.lens μ x ++ AV.lensL μ r
end
def obsAll : List Prop → Prop
  | [] => True
  | p :: r => p ∧ obsAll r
/-- row i of object n reads as ys from now on -/
def AV.putRow (n i : Nat) (k : FloatKind) (ys : List Nat) : AV → AV
  | .sl (.row m a) 0 (.f q xs) => if m = n then (if q = k then .sl (.row m a) 0 (.f q (if a = i then ys else xs)) else .any) else .sl (.row m a) 0 (.f q xs)
  | .nw m lo q xss h => if m = n then (if q = k then .nw m lo q (if lo ≤ i then xss.set (i - lo) ys else xss) h else .any) else .nw m lo q xss h
  | v => bif v.has n then .any else v
def AV.rowLens (n i : Nat) (ys : List Nat) : AV → List Prop
  | .sl (.row m a) 0 (.f _ xs) => if m = n then [a = i → xs.length = ys.length] else []
  | .nw m lo _ xss _ => if m = n then [lo ≤ i → i - lo < xss.length → (xss.getD (i - lo) []).length = ys.length] else []
  | _ => []
def rowLensL (n i : Nat) (ys : List Nat) : List AV → List Prop
  | [] => []
  | x :: r => AV.rowLens n i ys x ++ rowLensL n i ys r
/-- numbers alone -/
def AV.num : AV → Bool
  | .b _ => true
  | .i _ _ => true
  | .f _ _ => true
  | _ => false
def newC (ns : List Nat) (outs : List AV) (n : Nat) : Option New := bif ns.contains n then AV.newOfL (HI + ns.idxOf n) outs else none
def mvals (s : VStep) (σ : Env) : List AV := s.opds.map σ.ev
def mnames (s : VStep) (σ : Env) : List Nat := dedup (AV.nmsL (s.opds.map σ.ev))
def stepM (VC : FuncId → List AV → AV → Prop) (s : VStep) (r : AV) (σ : Env) : Option (Env × Prop) :=
  match s.kd, r with
  | .call f, .bx .nil [r0, .tup outs] =>
    let ns := mnames s σ
    let μ := newC ns outs
    if AV.mOkL (mvals s σ) = true ∧ (r0.parFree = true ∧ r0.immFree = true) ∧ (ns.all fun n => !(callNames (s.dst.getD 0)).contains n && (match μ n with | some ys => ys.good | none => false)) = true then
      some (Env.put s.dst (AV.back (s.dst.getD 0) [] r0) (AV.swapL μ (σ.scrubs (callNames (s.dst.getD 0)))), obsAll (VC f (AV.mviewL ns (mvals s σ)) r :: AV.lensL μ (σ.scrubs (callNames (s.dst.getD 0)))))
    else none
  | _, _ => none
/-- the same for a call that writes a row -/
def stepMR (VC : FuncId → List AV → AV → Prop) (s : VStep) (r : AV) (σ : Env) : Option (Env × Prop) :=
  match s.kd, r, mvals s σ with
  | .call f, .bx .nil [r0, .tup (.sl (.own m) 0 (.f q ys) :: outs)], .sl (.row n i) 0 (.f k xs) :: rest =>
    if (q = k ∧ m = HI) ∧ rest.all AV.num = true ∧ (r0.parFree = true ∧ r0.immFree = true) ∧ (callNames (s.dst.getD 0)).contains n = false then
      some (Env.put s.dst (AV.back (s.dst.getD 0) [] r0) ((σ.scrubs (callNames (s.dst.getD 0))).map (AV.putRow n i k ys)),
        obsAll (VC f (.sl (.own HI) 0 (.f k xs) :: rest) r :: rowLensL n i ys (σ.scrubs (callNames (s.dst.getD 0)))))
    else none
  | _, _, _ => none
def isMR (s : VStep) (σ : Env) : Bool :=
  match mvals s σ with
  | .sl (.row _ _) 0 (.f _ _) :: _ => true
  | _ => false

/-! ### rows of lists of lists -/
mutual
/-- a change of values, carried into tuples -/
def AV.deep (f : AV → AV) : AV → AV
  | .tup xs => .tup (AV.deepL f xs)
  | v => f v
def AV.deepL (f : AV → AV) : List AV → List AV
  | [] => []
  | x :: r => AV.deep f x :: AV.deepL f r
end
def Env.deep (f : AV → AV) (σ : Env) : Env := AV.deepL f σ
/-- nothing is told of what speaks of object n -/
def AV.drop (n : Nat) (v : AV) : AV := bif v.has n then .any else v
/-- cell j of row i of object n is x from now on -/
def AV.updR (n i j : Nat) (k : FloatKind) (x : Nat) : AV → AV
  | .sl (.row m a) 0 (.f q xs) => if m = n then (if q = k then .sl (.row m a) 0 (.f q (if a = i then xs.set j x else xs)) else .any) else .sl (.row m a) 0 (.f q xs)
  | .nw m lo q xss h => if m = n then (if q = k then .nw m lo q (if lo ≤ i then xss.set (i - lo) ((xss.getD (i - lo) []).set j x) else xss) h else .any) else .nw m lo q xss h
  | v => v.drop n
/-- row i of object n goes to cell j as well: where it stood is a hole -/
def AV.swapC (n j i : Nat) (k : FloatKind) (xs : List Nat) : AV → AV
  | .sl (.row m a) off (.f q ct) => if m = n then .sl (.row m (swn j i a)) off (.f q ct) else .sl (.row m a) off (.f q ct)
  | .nw m 0 q xss none => if m = n then (if q = k then .nw m 0 q (xss.set j xs) (some i) else .any) else .nw m 0 q xss none
  | v => v.drop n
/-- the hole at cell j is filled with the row that is its own -/
def AV.fillS (n j : Nat) (k : FloatKind) (xs : List Nat) : AV → AV
  | .nw m 0 q xss h => if m = n then (if q = k then .nw m 0 q (xss.set j xs) none else .any) else .nw m 0 q xss h
  | .sl (.row m a) off (.f q ct) => .sl (.row m a) off (.f q ct)
  | v => v.drop n
/-- object m becomes the row at cell j -/
def AV.fillC (n m j : Nat) (k : FloatKind) (xs : List Nat) : AV → AV
  | .nw l 0 q xss h => if l = n then (if q = k then .nw l 0 q (xss.set j xs) none else .any) else AV.drop m (.nw l 0 q xss h)
  | v => (v.drop n).drop m
/-- row i of object n is no longer told; object d is another now -/
def AV.holeAt (n i d : Nat) : AV → AV
  | .nw l lo q xss none => if l = n then .nw l lo q xss (some i) else AV.drop d (.nw l lo q xss none)
  | v => (v.drop n).drop d
/-- objects that are only read from now on; object d is another now -/
def AV.freeze (ms : List Nat) (d : Nat) : AV → AV
  | .sl (.own m) off (.f k xs) => bif ms.contains m then .sl .imm off (.f k xs) else AV.drop d (.sl (.own m) off (.f k xs))
  | v => bif ms.any (fun m => v.has m) || v.has d then .any else v
/-- zs written over xs, from cell off on -/
def splice (xs : List Nat) (off : Nat) (zs : List Nat) : List Nat := (xs.take off ++ zs ++ xs.drop (off + zs.length)).take xs.length
/-- zs is written into object n from cell off on -/
def AV.spl (n off : Nat) (k : FloatKind) (zs : List Nat) : AV → AV
  | .sl (.own m) 0 (.f q xs) => if m = n then (if q = k then .sl (.own m) 0 (.f q (splice xs off zs)) else .any) else .sl (.own m) 0 (.f q xs)
  | v => v.drop n
/-- literals of rows, stores of rows into lists of lists, appends to them: in the order of the text alone -/
def stepRA (s : VStep) (σ : Env) : Option (Env × Prop) :=
  match s.kd, s.opds.map σ.ev with
  | .store, [.na n j k h _, .sl (.own m) 0 (.f q xs)] => if q = k ∧ m ≠ n ∧ m < HI ∧ n < HI then
      some (Env.put s.dst .any (Env.deep (AV.fillC n m j k xs) σ), match h with | none => True | some i => i = j) else none
  | .app, [.sl (.row n i) 0 (.f k xs), .sl g o (.f q ys)] => if q = k ∧ g.names n = false ∧ g.names (8 * s.dst.getD 0) = false ∧ 8 * s.dst.getD 0 < HI ∧ n < HI ∧ n ≠ 8 * s.dst.getD 0 then
      some (Env.put s.dst (.sl (.own (8 * s.dst.getD 0)) 0 (.f k (xs ++ ys))) (Env.scrubs [8 * s.dst.getD 0] (Env.deep (AV.holeAt n i (8 * s.dst.getD 0)) σ)), xs.length + ys.length ≤ 4294967296) else none
  | .app, [.nw n 0 k xss none, .nw m 0 q yss none] => if n ≠ m ∧ n < HI ∧ m < HI ∧ q = k then
      some (Env.put s.dst (.nw n 0 k (xss ++ yss) none) (σ.scrubs [n, m]), xss.length + yss.length ≤ 4294967296) else none
  | .lit true (.ff k []), xs => match rowsOf k xs with
    | some (ms, xss) => if (ms.all fun m => decide (m < HI) && !(m == 8 * s.dst.getD 0)) = true ∧ 8 * s.dst.getD 0 < HI then
        (if ms.Nodup then some (Env.put s.dst (.nw (8 * s.dst.getD 0) 0 k xss none) (σ.scrubs (8 * s.dst.getD 0 :: ms)), True)
         else some (Env.put s.dst (.sl (.own (8 * s.dst.getD 0)) 0 (.ff k xss)) (Env.scrubs [8 * s.dst.getD 0] (Env.deep (AV.freeze ms (8 * s.dst.getD 0)) σ)), True)) else none
    | none => none
  | _, _ => none
def isRA (s : VStep) (σ : Env) : Bool :=
  match s.kd, s.opds.map σ.ev with
  | .store, [.na _ _ _ _ _, .sl (.own _) 0 (.f _ _)] => true
  | .app, [.sl (.row _ _) 0 (.f _ _), .sl _ _ (.f _ _)] => true
  | .app, [.nw _ _ _ _ _, .nw _ _ _ _ _] => true
  | .lit true (.ff _ []), _ :: _ => true
  | _, _ => false

/-- one operation, carried out: the environment behind it, and what is owed -/
def stepW (VC : FuncId → List AV → AV → Prop) (s : VStep) (r : AV) (σ : Env) : Option (Env × Prop) :=
  match s.kd, s.opds.map σ.ev with
  | .store, [.ad (.own n) j _, x] => if x.single = true then some ((σ.upd (.own n) j x).put s.dst .any, x.has n = false) else none
  | .store, [.ad (.row n i) j _, .f k x] => some (Env.put s.dst .any (Env.deep (AV.updR n i j k x) σ), True)
  | .store, [.na n j k none _, .sl (.row m i) 0 (.f q xs)] => if m = n ∧ q = k ∧ n < HI then some (Env.put s.dst .any (Env.deep (AV.swapC n j i k xs) σ), True) else none
  | .store, [.na n j k (some h) _, .sl (.row m i) 0 (.f q xs)] => if m = n ∧ q = k ∧ n < HI then some (Env.put s.dst .any (Env.deep (AV.fillS n j k xs) σ), h = j ∧ i = j) else none
  | .store, [.bx (.own n) [_], x] => if x.single = true then some ((σ.upd (.own n) 0 x).put s.dst .any, x.has n = false) else none
  | .storeN m, [.bx (.own n) cells, .agg xs] => if cells.length = m ∧ xs.length = m ∧ xs.all AV.single = true then some ((σ.updN (.own n) 0 xs).put s.dst .any, AV.hasL n xs = false) else none
  | .copy, [.sl (.own n) off (.f k xs), .sl _ _ (.f q ys)] => if q = k then some (Env.put s.dst (.i .i64 ((Nat.min ys.length xs.length : Nat) : Int)) (Env.deep (AV.spl n off k (ys.take xs.length)) σ), True) else none
  | .call f, vs => match evalCall VC (s.dst.getD 0) r f vs with
    | some (v, ns, o) => some ((σ.scrubs ns).put s.dst v, o)
    | none => none
  | .callv, .fn f caps :: vs => match evalCall VC (s.dst.getD 0) r f (vs ++ caps) with
    | some (v, ns, o) => some ((σ.scrubs ns).put s.dst v, o)
    | none => none
  | kd, vs => match evalK (s.dst.getD 0) kd vs with
    | some (v, ns, o) => some ((σ.scrubs ns).put s.dst v, o)
    | none => none

/-- one operation, with its guard -/
def stepE (VC : FuncId → List AV → AV → Prop) (s : VStep) (r : AV) (σ : Env) : Option (Env × Prop) :=
  match s.guard with
  | none => stepW VC s r σ
  | some (j, want) => match σ.getD j .any with
    | .b x => bif x == want then stepW VC s r σ else some (σ.put s.dst (.tup []), True)
    | .tup [] => some (σ.put s.dst (.tup []), True)
    | _ => none

end Go.Proofs.LV
