/- TM, part F: the abstract machine: operations, code, and how the program's code becomes it. -/
import Derived.Test.YtloodkhdngipbaaTmE
import Derived.Laws.StructEq
namespace Go.Proofs.YtloodkhdngipbaaT
set_option linter.unusedVariables false
set_option linter.unusedSimpArgs false
open Go

/-- org: of a place: which of the arguments' cells has the header that stands there. -/
structure St where
  t : Nat → TV
  H : Hp
  org : Path → Option Nat

inductive TOpd where
  | t (n : Nat)
  | c (v : TV)
  deriving Inhabited

def TOpd.ev (st : St) : TOpd → TV
  | .t n => st.t n
  | .c v => v

/-- Kinds of cells that compare by themselves. -/
inductive EK where
  | b | i | f | s
  deriving DecidableEq, Inhabited

inductive TOp where
  | mv (x : TOpd)
  | pick (c a b : TOpd)
  | box (n : Nat) (x : TOpd)
  | build (zero : List TV) (parts : List (Nat × Nat × TOpd))
  | bslice (z len : Nat) (zero : List TV) (parts : List (Nat × TOpd))
  | load (agg : Bool) (n : Nat) (a : TOpd)
  | store (n : Nat) (a x : TOpd)
  | nilck (x : TOpd)
  | bin (o : BinOp) (x y : TOpd)
  | eqs (neg agg : Bool) (ks : List EK) (x y : TOpd)
  | eqp (neg : Bool) (x y : TOpd)
  | un (o : UnOp) (x : TOpd)
  | toInt (k : IntKind) (x : TOpd)
  | toF (x : TOpd)
  | toS (x : TOpd)
  | mkfn (g : FuncId) (caps : List TOpd)
  | mkslice (z bytes : Nat) (zero : List TV) (len cap : TOpd)
  | slice (str : Bool) (z : Nat) (x : TOpd) (lo hi : Option TOpd)
  | faddr (off n : Nat) (x : TOpd)
  | fld (agg : Bool) (off n : Nat) (x : TOpd)
  | iaddr (z : Nat) (x i : TOpd)
  | ix (x i : TOpd)
  | ext (k : Nat) (x : TOpd)
  | len (str : Bool) (x : TOpd)
  | maxi (x y : TOpd)
  | app (z bytes : Nat) (s x : TOpd)
  | call (g : FuncId) (args : List (TOpd × Nat))
  | callv (f : TOpd) (args : List (TOpd × Nat))
  deriving Inhabited

structure TOper where
  dst : Option Nat
  root : Nat
  op : TOp
  guard : Option (Nat × Bool)
  free : List Nat
  deriving Inhabited

inductive TCode where
  | skip
  | ops (l : List TOper)
  | draw (l : List TOper)
  | seq (a b : TCode)
  | cond (c : TOpd) (a b : TCode)
  | block (id : Nat) (a : TCode)
  | loop (a : TCode)
  | exit (id : Nat)
  | ret
  deriving Inhabited

/-! ### what calls promise -/
def cellsT : TV → List TV
  | .ag cs => cs
  | u => [u]
def cellsV : Value → List Value
  | .agg cs => cs.toList
  | v => [v]
def isAg : TV → Bool
  | .ag _ => true
  | _ => false
def isAgV : Value → Bool
  | .agg _ => true
  | _ => false

/-- How an argument is handed over: only read; with what is in it (each cell of it may be handed back). -/
inductive Mode where
  | ro | own
  deriving DecidableEq, Inhabited

def ownCells : List Mode → List TV → List TV
  | .ro :: ms, _ :: us => ownCells ms us
  | _ :: ms, u :: us => cellsT u ++ ownCells ms us
  | _, _ => []
def ownVals : List Mode → List Value → List Value
  | .ro :: ms, _ :: us => ownVals ms us
  | _ :: ms, u :: us => cellsV u ++ ownVals ms us
  | _, _ => []

/-- Arguments told by their contents; those that are one's own at root 1. -/
structure ArgsR (w : World) (κ : Path → Value) (γ : Nat → Nat → Option Path) (A : Nat → Nat → Prop) (ms : List Mode) (args : List TV) (vs : List Value) : Prop where
  len : args.length = vs.length
  lenm : ms.length = args.length
  ag : ∀ (j : Nat) (u : TV) (v : Value), ms[j]? ≠ some .ro → args[j]? = some u → vs[j]? = some v → isAg u = isAgV v ∧ (cellsT u).length = (cellsV v).length
  ro : ∀ (j : Nat) (u : TV) (v : Value), ms[j]? = some .ro → args[j]? = some u → vs[j]? = some v → RV w κ (fun _ => []) A u v
  own : ∀ (m : Nat) (c : TV), (ownCells ms args)[m]? = some c → TR w κ γ A [(1, m)] c (κ [(1, m)])
  val : ∀ (m : Nat) (v : Value), (ownVals ms vs)[m]? = some v → κ [(1, m)] = v

/-- The results, one behind the other, at root 0. -/
structure ResR (w : World) (κ : Path → Value) (γ : Nat → Nat → Option Path) (A : Nat → Nat → Prop) (res : List TV) (rs : List Value) : Prop where
  len : res.length = rs.length
  ag : ∀ (j : Nat) (u : TV) (v : Value), res[j]? = some u → rs[j]? = some v → isAg u = isAgV v ∧ (cellsT u).length = (cellsV v).length
  cell : ∀ (m : Nat) (c : TV), (res.flatMap cellsT)[m]? = some c → TR w κ γ A [(0, m)] c (κ [(0, m)])
  val : ∀ (m : Nat) (v : Value), (rs.flatMap cellsV)[m]? = some v → κ [(0, m)] = v

def resV (vs : List Value) : Value := match vs with | [v] => v | vs => .tuple vs.toArray

/-- WHAT A FUNCTION DOES, told by contents: args with their modes, the results, what is handed back (for each cell that was given: none, or what it holds now). al: results may hold what was only read. -/
def Contract (P : Program) (al : Bool) (g : FuncId) (ms : List Mode) (args res : List TV) (outs : List (Option TV)) : Prop :=
  ∀ (w : World) (vs : List Value) (κ : Path → Value) (γ : Nat → Nat → Option Path) (A : Nat → Nat → Prop),
    ArgsR w κ γ A ms args vs →
    (∀ b o q, γ b o = some q → b < w.heap.size) → (∀ b o, A b o → b < w.heap.size ∧ γ b o = none) →
    Calls P g vs.toArray w fun e w' => ∃ rs κ' γ', e = .returned (resV rs) ∧ ResR w' κ' γ' (fun b o => al = true ∧ A b o) res rs ∧
      (∀ (m : Nat) (u : TV), outs[m]? = some (some u) → TR w' κ' γ' (fun b o => al = true ∧ A b o) [(1, m)] u (κ [(1, m)])) ∧
      (∀ b o q, γ' b o = some q → b < w'.heap.size ∧ ((∃ q', γ b o = some q') ∨ w.heap.size ≤ b)) ∧
      Chg (fun b o => ∃ q, γ b o = some q) w w'

/-! ### operations -/
mutual
def fz : TV → TV
  | .sl _ z es => .sl false z (fzLL es)
  | .po _ cs => .po false (fzL cs)
  | .fn g cs => .fn g (fzL cs)
  | .b x => .b x
  | .i k n => .i k n
  | .f x => .f x
  | .s x => .s x
  | .np => .np
  | .rf p o l => .rf p o l
  | .pt p i f => .pt p i f
  | .ag cs => .ag cs
  | .tu cs => .tu cs
  | .junk => .junk
  | .pin v => .pin v
def fzL : List TV → List TV
  | [] => []
  | u :: us => fz u :: fzL us
def fzLL : List (List TV) → List (List TV)
  | [] => []
  | e :: es => fzL e :: fzLL es
end

/-- Where a stretch begins: an empty one never at 0, so that what begins at 0 is the whole header. -/
def offE (off len : Nat) : Nat := if len = 0 then off + 1 else off

/-- The elements of a node that is one's own. -/
def rows : TV → Option (List (List TV))
  | .sl true _ es => some es
  | .po true cs => some [cs]
  | _ => none

def rowAt (H : Hp) (p : Path) (i : Nat) : Option (List TV) := ((cellAt H p).bind rows).bind (·[i]?)

def toRef (q : Path) : TV → TV
  | .sl true _ es => .rf q 0 es.length
  | .po true _ => .pt q 0 0
  | .rf .. | .pt .. | .ag _ | .tu _ => .junk
  | .fn g cs => if norefL cs = true then .fn g cs else .junk
  | u => u

def refsFrom (p : Path) (i : Nat) : Nat → List TV → List TV
  | _, [] => []
  | f, u :: us => toRef (p ++ [(i, f)]) u :: refsFrom p i (f + 1) us

/- What a value is to one who only reads it; the Bool: something of one's own is in it. -/
mutual
def roT (H : Hp) (n : Nat) : TV → Option (TV × Bool)
  | .rf p off len => match cellAt H p with
    | some (.sl true z es) => some (.sl false z (fzLL ((es.drop off).take len)), true)
    | _ => none
  | .pt p i f => (rowAt H p i).bind fun cs => if n = 0 then (if f ≤ cs.length then some (.po false (fzL (cs.drop f)), true) else none) else if f + n ≤ cs.length then some (.po false (fzL ((cs.drop f).take n)), true) else none
  | .ag cs => (roL H n cs).bind fun x => some (.ag x.1, x.2)
  | .fn g cs => (roL H 0 cs).bind fun x => some (.fn g x.1, x.2)
  | .sl true z [] => some (.sl false z [], false)
  | .sl true _ (_ :: _) | .po true _ | .tu _ | .junk => none
  | .sl false z es => some (.sl false z es, false)
  | .po false cs => some (.po false cs, false)
  | .b x => some (.b x, false)
  | .i k m => some (.i k m, false)
  | .f x => some (.f x, false)
  | .s x => some (.s x, false)
  | .np => some (.np, false)
  | .pin v => some (.pin v, false)
def roL (H : Hp) (n : Nat) : List TV → Option (List TV × Bool)
  | [] => some ([], false)
  | u :: us => (roT H n u).bind fun x => (roL H n us).bind fun y => some (x.1 :: y.1, x.2 || y.2)
end

/- The roots that a value reaches. -/
mutual
def rootsT : TV → List Nat
  | .rf p _ _ => (p.head?.map (·.1)).toList
  | .pt p _ _ => (p.head?.map (·.1)).toList
  | .ag cs => rootsL cs
  | .tu cs => rootsL cs
  | .fn _ cs => rootsL cs
  | .b _ | .i .. | .f _ | .s _ | .np | .sl .. | .po .. | .junk | .pin _ => []
def rootsL : List TV → List Nat
  | [] => []
  | u :: us => rootsT u ++ rootsL us
end

/-- What an operation does. -/
structure Eff where
  v : TV
  dead : Option (Path → Bool)
  H : Hp
  wr : List Nat
  nr : Option Nat := none
  norg : List (Option Nat) := []

def under (ds : List Path) (q : Path) : Bool := ds.any (fun p => p.isPrefixOf q)

def setRoot (H : Hp) (r : Nat) (cs : List TV) : Hp := fun y => if y = r then cs else H y

def eqT : EK → TV → TV → Option Bool
  | .b, .b x, .b y => some (x == y)
  | .i, .i k a, .i k' b => if k = k' then some (a == b) else none
  | .s, .s a, .s b => some (a.toList == b.toList)
  | .f, .f a, .f b => some (FloatKind.f64.format.order a b == some .eq)
  | _, _, _ => none
def eqL : List EK → List TV → List TV → Option Bool
  | [], [], [] => some true
  | k :: ks, a :: as, b :: bs => (eqT k a b).bind fun x => (eqL ks as bs).bind fun y => some (x && y)
  | _, _, _ => none

def nanC : Nat := 9221120237041090561
def fltArith (o : BinOp) (x y : Nat) : Nat :=
  (match o with
  | .add => FloatKind.f64.format.add x y
  | .sub => FloatKind.f64.format.sub x y
  | .mul => FloatKind.f64.format.mul x y
  | .quo => FloatKind.f64.format.div x y
  | _ => none).elim nanC canon

def binT (o : BinOp) : TV → TV → (TV → Prop) → Prop
  | .i k a, .i k' b, K => match o with
    | .shl => 0 ≤ b ∧ K (.i k (k.wrap (a * 2 ^ (min b.toNat k.bits))))
    | .shr => 0 ≤ b ∧ K (.i k (a.fdiv (2 ^ (min b.toNat k.bits))))
    | .add => k = k' ∧ K (.i k (k.wrap (a + b)))
    | .sub => k = k' ∧ K (.i k (k.wrap (a - b)))
    | .mul => k = k' ∧ K (.i k (k.wrap (a * b)))
    | .quo => k = k' ∧ b ≠ 0 ∧ K (.i k (k.wrap (a.tdiv b)))
    | .rem => k = k' ∧ b ≠ 0 ∧ K (.i k (a.tmod b))
    | .and => k = k' ∧ K (.i k (k.wrap (BitVec.ofInt k.bits a &&& BitVec.ofInt k.bits b).toNat))
    | .or => k = k' ∧ K (.i k (k.wrap (BitVec.ofInt k.bits a ||| BitVec.ofInt k.bits b).toNat))
    | .xor => k = k' ∧ K (.i k (k.wrap (BitVec.ofInt k.bits a ^^^ BitVec.ofInt k.bits b).toNat))
    | .andNot => k = k' ∧ K (.i k (k.wrap (BitVec.ofInt k.bits a &&& ~~~ BitVec.ofInt k.bits b).toNat))
    | .eql => k = k' ∧ K (.b (a == b))
    | .neq => k = k' ∧ K (.b (a != b))
    | .lss => k = k' ∧ K (.b (a < b))
    | .leq => k = k' ∧ K (.b (a ≤ b))
    | .gtr => k = k' ∧ K (.b (a > b))
    | .geq => k = k' ∧ K (.b (a ≥ b))
  | .s a, .s b, K => match o with
    | .add => a.size + b.size < 2 ^ 62 ∧ K (.s (a ++ b))
    | .eql => K (.b (a.toList == b.toList))
    | .neq => K (.b (!(a.toList == b.toList)))
    | .lss => K (.b (Op.bytesLess a.toList b.toList))
    | _ => False
  | .f a, .f b, K => match o with
    | .add => K (.f (fltArith .add a b))
    | .sub => K (.f (fltArith .sub a b))
    | .mul => K (.f (fltArith .mul a b))
    | .quo => K (.f (fltArith .quo a b))
    | .eql => K (.b (FloatKind.f64.format.order a b == some .eq))
    | .neq => K (.b (FloatKind.f64.format.order a b != some .eq))
    | .lss => K (.b (FloatKind.f64.format.order a b == some .lt))
    | .leq => K (.b (FloatKind.f64.format.order a b == some .lt || FloatKind.f64.format.order a b == some .eq))
    | .gtr => K (.b (FloatKind.f64.format.order a b == some .gt))
    | .geq => K (.b (FloatKind.f64.format.order a b == some .gt || FloatKind.f64.format.order a b == some .eq))
    | _ => False
  | _, _, _ => False

/-- A slice's elements, as one reads them. -/
def elemsOf (H : Hp) : TV → Option (List (List TV))
  | .sl false _ es => some es
  | .sl true _ [] => some []
  | .rf p off len => match cellAt H p with
    | some (.sl true _ es) => some ((es.drop off).take len)
    | _ => none
  | _ => none

def lenT : Bool → TV → Option Nat
  | false, .sl false _ es => some es.length
  | false, .sl true _ [] => some 0
  | false, .rf _ _ len => some len
  | true, .s a => some a.size
  | _, _ => none

def fitB : TV → Bool
  | .junk | .tu _ | .ag _ => false
  | _ => true

def putParts (zero : List TV) : List (Nat × Nat × TV) → Option (List TV)
  | [] => some zero
  | (off, n, u) :: rest => if (cellsT u).length = n ∧ off + n ≤ zero.length ∧ (cellsT u).all fitB = true then putParts (zero.take off ++ cellsT u ++ zero.drop (off + n)) rest else none

def putElems (z : Nat) (es : List (List TV)) : List (Nat × TV) → Option (List (List TV))
  | [] => some es
  | (i, u) :: rest => if (cellsT u).length = z ∧ (cellsT u).all fitB = true then putElems z (es.set i (cellsT u)) rest else none

def bytesT : List (List TV) → Option (List UInt8)
  | [] => some []
  | [.i .u8 n] :: rest => (bytesT rest).bind fun bs => some (UInt8.ofNat n.toNat :: bs)
  | _ => none

def tkOf (u : TV) (us : List TV) : TV := if isAg u then .ag us else us.headD .junk

/-- Where a cell that is given comes from, if it is the whole of what stands there. -/
def pathOf : TV → Option Path
  | .rf p 0 _ => some p
  | .pt p 0 0 => some p
  | _ => none

/-- The arguments of a call that are given: taken out of the heap. What is taken, the heap behind, the places that die, where each cell comes from. -/
def takeArgs (H : Hp) : List Mode → List (TV × Nat) → Option (List TV × Hp × List Path × List (Option Path))
  | [], [] => some ([], H, [], [])
  | .ro :: ms, _ :: as => (takeArgs H ms as).bind fun y => some (.junk :: y.1, y.2.1, y.2.2.1, y.2.2.2)
  | .own :: ms, (u, _) :: as => (takeL (cellsT u) H).bind fun x => (takeArgs x.2.1 ms as).bind fun y =>
      some (tkOf u x.1 :: y.1, y.2.1, x.2.2 ++ y.2.2.1, (cellsT u).map pathOf ++ y.2.2.2)
  | _, _ => none

/-- Those that are only read, told by the heap behind. -/
def roArgs (H : Hp) : List Mode → List (TV × Nat) → List TV → Option (List TV × Bool)
  | [], [], [] => some ([], false)
  | .ro :: ms, (u, n) :: as, _ :: ts => (roT H n u).bind fun x => (roArgs H ms as ts).bind fun y => some (x.1 :: y.1, x.2 || y.2)
  | _ :: ms, _ :: as, t :: ts => (roArgs H ms as ts).bind fun y => some (t :: y.1, y.2)
  | _, _, _ => none

def putBack (H : Hp) : List (Option Path) → List TV → Hp
  | some p :: bs, u :: us => putBack (modH H (fun _ => u) p) bs us
  | _ :: bs, _ :: us => putBack H bs us
  | _, _ => H

/-- Where to put what comes back. -/
def backsOf : List (Option Path) → List (Option TV) → List (Option Path)
  | p :: ps, some _ :: os => p :: backsOf ps os
  | _ :: ps, none :: os => none :: backsOf ps os
  | _, _ => []

def outsT (os : List (Option TV)) : List TV := os.map (·.getD .junk)

/-- What comes back is of the shape of what was lent. -/
def backOk (H H1 : Hp) : List (Option Path) → List (Option TV) → Prop
  | some p :: ps, some u :: os => (shape u = shapeAt H p ∧ (cellAt H1 p).isSome = true ∧ some p ∉ backsOf ps os) ∧ backOk H H1 ps os
  | none :: ps, some _ :: os => backOk H H1 ps os
  | _ :: ps, none :: os => backOk H H1 ps os
  | [], [] => True
  | _, _ => False

def takeRows (p : Path) : Nat → List (List TV) → Hp → Option (List (List TV) × Hp × List Path)
  | _, [], H => some ([], H, [])
  | i, e :: es, H => (takeL (refsFrom p i 0 e) H).bind fun x => (takeRows p (i + 1) es x.2.1).bind fun y => some (x.1 :: y.1, y.2.1, x.2.2 ++ y.2.2)

/-- The elements that an append takes. -/
def srcT (H : Hp) : TV → Option (Nat × List (List TV) × Hp × List Path)
  | .rf p off len => match cellAt H p with
    | some (.sl true z es) => if ((es.drop off).take len).all (·.all noref) then some (z, (es.drop off).take len, H, []) else (takeRows p off ((es.drop off).take len) H).map fun x => (z, x)
    | _ => none
  | .sl false z es => if es.all (·.all noref) then some (z, es, H, []) else none
  | .sl true z [] => some (z, [], H, [])
  | _ => none

def chunk (z : Nat) : Nat → List TV → List (List TV)
  | 0, _ => []
  | n + 1, us => us.take z :: chunk z n (us.drop z)

def zeroOk : TV → Bool
  | .sl true _ [] => true
  | u => noref u

def isOwn (u : TV) : Bool := (shape u).isSome

def refTu (r : Nat) : Nat → List TV → List TV
  | _, [] => []
  | k, .ag cs :: us => .ag (refsFrom [] r k cs) :: refTu r (k + cs.length) us
  | k, u :: us => toRef [(r, k)] u :: refTu r (k + 1) us

def resT : List TV → TV
  | [u] => u
  | us => .tu us

def strict (p q : Path) : Bool := p.isPrefixOf q && !(q.length == p.length)

/-- Whether what is told is a nil slice. -/
def nilT : TV → Bool
  | .sl true _ [] => true
  | _ => false
/-- What a function does where some of the arguments are nil slices for certain (nn). -/
def ContractA (P : Program) (nn : List Bool) (al : Bool) (g : FuncId) (ms : List Mode) (args res : List TV) (outs : List (Option TV)) : Prop :=
  ∀ (w : World) (vs : List Value) (κ : Path → Value) (γ : Nat → Nat → Option Path) (A : Nat → Nat → Prop),
    (∀ (j : Nat) (v : Value), nn[j]? = some true → vs[j]? = some v → v = .slice none 0 0) → ArgsR w κ γ A ms args vs →
    (∀ b o q, γ b o = some q → b < w.heap.size) → (∀ b o, A b o → b < w.heap.size ∧ γ b o = none) →
    Calls P g vs.toArray w fun e w' => ∃ rs κ' γ', e = .returned (resV rs) ∧ ResR w' κ' γ' (fun b o => al = true ∧ A b o) res rs ∧
      (∀ (m : Nat) (u : TV), outs[m]? = some (some u) → TR w' κ' γ' (fun b o => al = true ∧ A b o) [(1, m)] u (κ [(1, m)])) ∧
      (∀ b o q, γ' b o = some q → b < w'.heap.size ∧ ((∃ q', γ b o = some q') ∨ w.heap.size ≤ b)) ∧
      Chg (fun b o => ∃ q, γ b o = some q) w w'
theorem Contract.toA {P : Program} {al : Bool} {g : FuncId} {ms : List Mode} {args res : List TV} {outs : List (Option TV)} (h : Contract P al g ms args res outs) (nn : List Bool) : ContractA P nn al g ms args res outs :=
  fun w vs κ γ A _ => h w vs κ γ A
def callW (P : Program) (st : St) (root : Nat) (g : FuncId) (as : List (TV × Nat)) (K : Eff → Prop) : Prop :=
  ∃ al ms args res outs, ContractA P (as.map fun a => nilT a.1) al g ms args res outs ∧ st.H root = [] ∧ 2 ≤ root ∧
    ∃ tk H1 ds ps ro, takeArgs st.H ms as = some (tk, H1, ds, ps) ∧ roArgs H1 ms as tk = some (args, ro) ∧ (al = true → ro = false) ∧ backOk st.H H1 ps outs ∧
      K (if (res.flatMap cellsT).any isOwn then
          { v := resT (refTu root 0 res), dead := if ds = [] then none else some (fun q => under ds q && !((backsOf ps outs).any (· == some q))), H := setRoot (putBack H1 (backsOf ps outs) (outsT outs)) root (res.flatMap cellsT), wr := root :: ds.filterMap (fun p => p.head?.map (·.1)), nr := some root }
        else { v := resT res, dead := if ds = [] then none else some (fun q => under ds q && !((backsOf ps outs).any (· == some q))), H := putBack H1 (backsOf ps outs) (outsT outs), wr := ds.filterMap (fun p => p.head?.map (·.1)) })

/-- Which of the arguments' cells has the header that stands here. -/
def orgOf (st : St) : Path → Option Nat
  | [s] => if s.1 = 1 then some s.2 else st.org [s]
  | p => st.org p
def norgOf (st : St) : TV → Option Nat
  | .rf p 0 len => if (shapeAt st.H p).map (·.2.2) = some len then orgOf st p else none
  | .pt p 0 0 => if (shapeAt st.H p).map (·.1) = some false then orgOf st p else none
  | _ => none

/-- A function with a body. -/
def callable (P : Program) (g : FuncId) : Bool := match P.funcs[g]? with
  | some fn => fn.body.isSome && fn.name != "runtime.NumGoroutine"
  | none => false

def val (st : St) (v : TV) : Eff := { v, dead := none, H := st.H, wr := [] }
def optB (st : St) (d : Int) : Option TOpd → (Int → Prop) → Prop
  | none, K => K d
  | some x, K => match x.ev st with
    | .i _ n => K n
    | _ => False

def isJ : TV → Bool
  | .junk => true
  | _ => false
/-- Nothing is left in it. -/
def freeR (H : Hp) (r : Nat) : Bool := (H r).all isJ

def opW (P : Program) (st : St) (root : Nat) (op : TOp) (K : Eff → Prop) : Prop :=
  match op with
  | .mv x => K (val st (x.ev st))
  | .pick c a b => match c.ev st with
    | .b x => K (val st (if x then a.ev st else b.ev st))
    | _ => False
  | .box n x => match takeL (cellsT (x.ev st)) st.H with
    | some (us, H1, ds) => us.length = n ∧ st.H root = [] ∧ 2 ≤ root ∧
        K { v := .pt [(root, 0)] 0 0, dead := if ds = [] then none else some (under ds), H := setRoot H1 root [.po true us], wr := root :: ds.filterMap (fun p => p.head?.map (·.1)), nr := some root, norg := (cellsT (x.ev st)).map (norgOf st) }
    | none => False
  | .build zero parts => match putParts zero (parts.map fun x => (x.1, x.2.1, x.2.2.ev st)) with
    | some cs => K (val st (.ag cs))
    | none => False
  | .bslice z len zero parts => match putElems z (List.replicate len zero) (parts.map fun x => (x.1, x.2.ev st)) with
    | some es => match takeL es.flatten st.H with
      | some (us, H1, ds) => st.H root = [] ∧ 2 ≤ root ∧ zero.length = z ∧
          K { v := .rf [(root, 0)] 0 len, dead := if ds = [] then none else some (under ds), H := setRoot H1 root [.sl true z (chunk z len us)], wr := root :: ds.filterMap (fun p => p.head?.map (·.1)), nr := some root }
      | none => False
    | none => False
  | .load agg n a => match a.ev st with
    | .pt p i f => match rowAt st.H p i with
      | some cs => f + n ≤ cs.length ∧ (if agg then K (val st (.ag (refsFrom p i f ((cs.drop f).take n)))) else n = 1 ∧ K (val st ((refsFrom p i f ((cs.drop f).take 1)).headD .junk)))
      | none => False
    | .po false cs => n ≤ cs.length ∧ (if agg then K (val st (.ag (cs.take n))) else n = 1 ∧ K (val st (cs.headD .junk)))
    | _ => False
  | .store n a x => match a.ev st with
    | .pt p i f => match takeL (cellsT (x.ev st)) st.H with
      | some (us, H1, ds) => us.length = n ∧ (match rowAt H1 p i with | some cs => f + n ≤ cs.length | none => False) ∧
          K { v := .junk, dead := some (fun q => under ds q || under ((List.range n).map fun j => p ++ [(i, f + j)]) q), H := putL p i f us H1, wr := (p.head?.map (·.1)).toList ++ ds.filterMap (fun p => p.head?.map (·.1)) }
      | none => False
    | _ => False
  | .nilck x => match x.ev st with
    | .pt p i f => K (val st (.pt p i f))
    | .po false cs => K (val st (.po false cs))
    | .fn g cs => K (val st (.fn g cs))
    | _ => False
  | .bin o x y => binT o (x.ev st) (y.ev st) fun v => K (val st v)
  | .eqs neg agg ks x y => match eqL ks (cellsT (x.ev st)) (cellsT (y.ev st)) with
    | some r => isAg (x.ev st) = agg ∧ isAg (y.ev st) = agg ∧ K (val st (.b (r ^^ neg)))
    | none => False
  | .eqp neg x y => match x.ev st, y.ev st with
    | .np, .np => K (val st (.b (!neg)))
    | .np, .pt .. | .np, .po false _ | .pt .., .np | .po false _, .np => K (val st (.b neg))
    | _, _ => False
  | .un o x => match o, x.ev st with
    | .not, .b x => K (val st (.b (!x)))
    | .neg, .i k n => K (val st (.i k (k.wrap (0 - n))))
    | .neg, .f x => K (val st (.f (canon (Op.negFloat .f64 x))))
    | _, _ => False
  | .toInt k x => match x.ev st with
    | .i _ n => K (val st (.i k (k.wrap n)))
    | .f b => match (FloatKind.f64.decode b).toInt .zero with
      | some n => k.min ≤ n ∧ n ≤ k.max ∧ K (val st (.i k n))
      | none => False
    | _ => False
  | .toF x => match x.ev st with
    | .i _ n => K (val st (.f (canon (FloatKind.f64.nearest n))))
    | .f b => K (val st (.f b))
    | _ => False
  | .toS x => match (elemsOf st.H (x.ev st)).bind bytesT with
    | some bs => K (val st (.s ⟨bs.toArray⟩))
    | none => False
  | .mkfn g caps => K (val st (.fn g (caps.map (·.ev st))))
  | .mkslice z bytes zero len cap => match len.ev st, cap.ev st with
    | .i .i64 l, .i .i64 c => 0 ≤ l ∧ l = c ∧ bytes * l ≤ 2 ^ 47 ∧ st.H root = [] ∧ 2 ≤ root ∧ zero.length = z ∧ zero.all zeroOk = true ∧
        K { v := .rf [(root, 0)] 0 l.toNat, dead := none, H := setRoot st.H root [.sl true z (List.replicate l.toNat zero)], wr := [root], nr := some root }
    | _, _ => False
  | .slice true _ x lo hi => match x.ev st with
    | .s a => optB st 0 lo fun l => optB st a.size hi fun h => 0 ≤ l ∧ l ≤ h ∧ h ≤ a.size ∧ K (val st (.s (a.extract l.toNat h.toNat)))
    | _ => False
  | .slice false z x lo hi => match x.ev st with
    | .sl false z' es => z' = z ∧ optB st 0 lo fun l => optB st es.length hi fun h => 0 ≤ l ∧ l ≤ h ∧ h ≤ es.length ∧ K (val st (.sl false z' ((es.drop l.toNat).take (h.toNat - l.toNat))))
    | .sl true z' [] => optB st 0 lo fun l => optB st 0 hi fun h => l = 0 ∧ h = 0 ∧ K (val st (.sl true z' []))
    | .rf p off len => (shapeAt st.H p).map (fun s => s.2.1) = some z ∧ optB st 0 lo fun l => optB st len hi fun h => 0 ≤ l ∧ l ≤ h ∧ h ≤ len ∧ K (val st (.rf p (offE (off + l.toNat) (h.toNat - l.toNat)) (h.toNat - l.toNat)))
    | _ => False
  | .faddr off n x => match x.ev st with
    | .pt p i f => match rowAt st.H p i with
      | some cs => f + off + n ≤ cs.length ∧ K (val st (.pt p i (f + off)))
      | none => False
    | .po false cs => off + n ≤ cs.length ∧ K (val st (.po false ((cs.drop off).take n)))
    | _ => False
  | .fld agg off n x => match x.ev st with
    | .ag cs => off + n ≤ cs.length ∧ (if agg then K (val st (.ag ((cs.drop off).take n))) else n = 1 ∧ K (val st (((cs.drop off).take 1).headD .junk)))
    | _ => False
  | .iaddr z x ix => match x.ev st, ix.ev st with
    | .sl false z' es, .i _ n => match (if 0 ≤ n then es[n.toNat]? else none) with
      | some e => z' = z ∧ K (val st (.po false e))
      | none => False
    | .rf p off len, .i _ n => 0 ≤ n ∧ n < len ∧ (shapeAt st.H p).map (fun s => s.2.1) = some z ∧ K (val st (.pt p (off + n.toNat) 0))
    | _, _ => False
  | .ix x ix => match x.ev st, ix.ev st with
    | .s a, .i _ n => match (if 0 ≤ n then a[n.toNat]? else none) with
      | some b => K (val st (.i .u8 b.toNat))
      | none => False
    | _, _ => False
  | .ext k x => match x.ev st with
    | .tu vs => match vs[k]? with
      | some v => K (val st v)
      | none => False
    | _ => False
  | .len str x => match lenT str (x.ev st) with
    | some n => K (val st (.i .i64 n))
    | none => False
  | .maxi x y => match x.ev st, y.ev st with
    | .i k a, .i _ b => K (val st (.i k (if b > a then b else a)))
    | _, _ => False
  | .app z bytes s x => match srcT st.H (x.ev st) with
    | some (z2, es2, H1, d1) => match take1 H1 (s.ev st) with
      | some (.sl true z' es, H2, d2) => z' = z ∧ z2 = z ∧ freeR H2 root = true ∧ 2 ≤ root ∧ bytes * (es.length + es2.length) ≤ 2 ^ 47 ∧
          K { v := .rf [(root, 0)] 0 (es.length + es2.length), dead := if d1 ++ d2 = [] then none else some (under (d1 ++ d2)), H := setRoot H2 root [.sl true z (es ++ es2)], wr := root :: (d1 ++ d2).filterMap (fun p => p.head?.map (·.1)), nr := some root }
      | _ => False
    | none => False
  | .call g args => callW P st root g (args.map fun x => (x.1.ev st, x.2)) K
  | .callv f args => match f.ev st with
    | .fn g caps => callable P g = true ∧ callW P st root g (args.map (fun x => (x.1.ev st, x.2)) ++ caps.map fun c => (c, 0)) K
    | _ => False

/-! ### code -/
def deadT : Option (Path → Bool) → TV → TV
  | none, u => u
  | some d, u => killT d u

def deadB : Option (Path → Bool) → Path → Bool
  | none, _ => false
  | some d, q => d q

def orgPut (st : St) (E : Eff) (q : Path) : Option Nat :=
  match q with
  | [] => st.org []
  | s :: r => if E.nr = some s.1 then (match r with
      | [t] => if s.2 = 0 ∧ t.1 = 0 then (E.norg[t.2]?).bind id else none
      | _ => none) else if deadB E.dead q = true then none else st.org q

def St.put (st : St) (dst : Option Nat) (E : Eff) : St where
  t := fun k => if dst = some k then E.v else deadT E.dead (st.t k)
  H := E.H
  org := orgPut st E

def St.undef (st : St) (dst : Option Nat) : St where
  t := fun k => if dst = some k then .tu [] else st.t k
  H := st.H
  org := st.org

/-- Roots forgotten. -/
def St.drop (st : St) (rs : List Nat) : St where
  t := fun k => killT (fun q => match q.head? with | some s => rs.contains s.1 | none => false) (st.t k)
  H := fun y => if rs.contains y then [] else st.H y
  org := st.org

/-- Another name for a root. -/
def renP (a b : Nat) : Path → Path
  | [] => []
  | s :: r => (if s.1 = a then (b, s.2) else s) :: r
mutual
def renT (a b : Nat) : TV → TV
  | .rf p o l => .rf (renP a b p) o l
  | .pt p i f => .pt (renP a b p) i f
  | .ag cs => .ag (renTL a b cs)
  | .tu cs => .tu (renTL a b cs)
  | .fn g cs => .fn g (renTL a b cs)
  | .b x => .b x
  | .i k n => .i k n
  | .f x => .f x
  | .s x => .s x
  | .np => .np
  | .sl o z es => .sl o z es
  | .po o cs => .po o cs
  | .junk => .junk
  | .pin v => .pin v
def renTL (a b : Nat) : List TV → List TV
  | [] => []
  | u :: us => renT a b u :: renTL a b us
end
def renO (a b : Nat) (o : Path → Option Nat) : Path → Option Nat
  | [] => o []
  | s :: r => if s.1 = b then o ((a, s.2) :: r) else if s.1 = a then none else o (s :: r)
def renH (a b : Nat) (H : Hp) : Hp := fun y => if y = b then H a else if y = a then [] else H y
def St.ren (st : St) (a b : Nat) : St := ⟨fun k => renT a b (st.t k), renH a b st.H, renO a b st.org⟩
def St.rens (st : St) : List (Nat × Nat) → St
  | [] => st
  | (a, b) :: mv => (st.ren a b).rens mv
def renOk (st : St) : List (Nat × Nat) → Prop
  | [] => True
  | (a, b) :: mv => (2 ≤ a ∧ 2 ≤ b ∧ a ≠ b ∧ st.H b = []) ∧ renOk (st.ren a b) mv

/-- What a guard says of a value: an operation that was left out has the empty tuple. -/
def gB (w : Bool) : TV → Option Bool
  | .b x => some (x == w)
  | .tu _ => some false
  | _ => none
def wantW (st : St) : Option (Nat × Bool) → (Bool → Prop) → Prop
  | none, K => K true
  | some (t, want), K => match gB want (st.t t) with
    | some b => K b
    | none => False

def opsW (P : Program) : List TOper → St → (St → Prop) → Prop
  | [], st, Q => Q st
  | o :: os, st, Q => wantW st o.guard fun b => (b = true → opW P st o.root o.op fun E => opsW P os (st.put o.dst E) Q) ∧ (b = false → opsW P os (st.undef o.dst) Q)

inductive TExit where
  | normal
  | exit (id : Nat)
  | ret

def TOpd.tm : TOpd → List Nat
  | .t n => [n]
  | .c _ => []
def tmsO : Option TOpd → List Nat
  | none => []
  | some x => x.tm
def evO (st : St) : Option TOpd → List TV
  | none => []
  | some x => [x.ev st]

/-- The temporaries that an operation looks at. -/
def opTm : TOp → List Nat
  | .mv x => x.tm
  | .pick c a b => c.tm ++ a.tm ++ b.tm
  | .box _ x => x.tm
  | .build _ ps => ps.flatMap (·.2.2.tm)
  | .bslice _ _ _ ps => ps.flatMap (·.2.tm)
  | .load _ _ a => a.tm
  | .store _ a x => a.tm ++ x.tm
  | .nilck x => x.tm
  | .bin _ x y => x.tm ++ y.tm
  | .eqs _ _ _ x y => x.tm ++ y.tm
  | .eqp _ x y => x.tm ++ y.tm
  | .un _ x => x.tm
  | .toInt _ x => x.tm
  | .toF x => x.tm
  | .toS x => x.tm
  | .mkfn _ caps => caps.flatMap (·.tm)
  | .mkslice _ _ _ l c => l.tm ++ c.tm
  | .slice _ _ x lo hi => x.tm ++ tmsO lo ++ tmsO hi
  | .faddr _ _ x => x.tm
  | .fld _ _ _ x => x.tm
  | .iaddr _ x i => x.tm ++ i.tm
  | .ix x i => x.tm ++ i.tm
  | .ext _ x => x.tm
  | .len _ x => x.tm
  | .maxi x y => x.tm ++ y.tm
  | .app _ _ s x => s.tm ++ x.tm
  | .call _ args => args.flatMap (·.1.tm)
  | .callv f args => f.tm ++ args.flatMap (·.1.tm)

/-- What an 'extract' looks at. -/
def extT (k : Nat) : TV → List TV
  | .tu vs => (vs[k]?).toList
  | u => [u]

/-- All values that an operation looks at. -/
def opT (st : St) : TOp → List TV
  | .mv x => [x.ev st]
  | .pick c a b => [c.ev st, a.ev st, b.ev st]
  | .box _ x => [x.ev st]
  | .build zero ps => zero ++ ps.map (·.2.2.ev st)
  | .bslice _ _ zero ps => zero ++ ps.map (·.2.ev st)
  | .load _ _ a => [a.ev st]
  | .store _ a x => [a.ev st, x.ev st]
  | .nilck x => [x.ev st]
  | .bin _ x y => [x.ev st, y.ev st]
  | .eqs _ _ _ x y => [x.ev st, y.ev st]
  | .eqp _ x y => [x.ev st, y.ev st]
  | .un _ x => [x.ev st]
  | .toInt _ x => [x.ev st]
  | .toF x => [x.ev st]
  | .toS x => [x.ev st]
  | .mkfn _ caps => caps.map (·.ev st)
  | .mkslice _ _ zero l c => zero ++ [l.ev st, c.ev st]
  | .slice _ _ x lo hi => [x.ev st] ++ evO st lo ++ evO st hi
  | .faddr _ _ x => [x.ev st]
  | .fld _ _ _ x => [x.ev st]
  | .iaddr _ x i => [x.ev st, i.ev st]
  | .ix x i => [x.ev st, i.ev st]
  | .ext k x => extT k (x.ev st)
  | .len _ x => [x.ev st]
  | .maxi x y => [x.ev st, y.ev st]
  | .app _ _ s x => [s.ev st, x.ev st]
  | .call _ args => args.map (·.1.ev st)
  | .callv f args => f.ev st :: args.map (·.1.ev st)


/-- The same to an operation's eyes. -/
def SameT (st st' : St) : TOp → Prop
  | .ext k x => extT k (x.ev st') = extT k (x.ev st) ∧ ∀ vs, x.ev st = .tu vs → ∃ vs', x.ev st' = .tu vs' ∧ vs'[k]? = vs[k]?
  | op => ∀ k ∈ opTm op, st'.t k = st.t k

/-! ### regions in any order -/
mutual
/-- No reference in it that died. -/
def njT : TV → Bool
  | .junk => false
  | .ag cs => njL cs
  | .tu cs => njL cs
  | .fn _ cs => njL cs
  | .rf .. | .pt .. | .b _ | .i .. | .f _ | .s _ | .np | .sl .. | .po .. | .pin _ => true
def njL : List TV → Bool
  | [] => true
  | u :: us => njT u && njL us
end

/-- Operations that may turn the heap. -/
def canWr : TOp → Bool
  | .box .. | .bslice .. | .store .. | .mkslice .. | .app .. | .call .. | .callv .. => true
  | _ => false

/-- Nothing in it dies. -/
def liveB (d : Option (Path → Bool)) (p : Path) : Bool := match d with
  | some d => !d p
  | none => true
mutual
def liveT (d : Option (Path → Bool)) : TV → Bool
  | .rf p _ _ => liveB d p
  | .pt p _ _ => liveB d p
  | .ag cs => liveL d cs
  | .tu cs => liveL d cs
  | .fn _ cs => liveL d cs
  | .junk | .b _ | .i .. | .f _ | .s _ | .np | .sl .. | .po .. | .pin _ => true
def liveL (d : Option (Path → Bool)) : List TV → Bool
  | [] => true
  | u :: us => liveT d u && liveL d us
end
/-- Operations that look at values alone: the values. -/
def voOf (st : St) (v : TV) : TOp → Option (List TV)
  | .mv x => some [v, x.ev st]
  | .nilck x => some [v, x.ev st]
  | _ => none

/-- What an operation looked at, and what it turned. -/
structure Foot where
  rd : List Nat
  wr : List Nat
  vr : List Nat
  root : Nat
  nj : Bool
  vo : Option (List TV)
  dd : Option (Path → Bool)

def footOf (st : St) (o : TOper) (E : Eff) : Foot := ⟨rootsL (opT st o.op), E.wr, rootsT E.v, o.root, njL (opT st o.op), voOf st E.v o.op, E.dead⟩
def foot0 (o : TOper) : Foot := ⟨[], [], [], o.root, true, none, none⟩

def disj (a b : List Nat) : Bool := a.all fun r => !b.contains r
def pair1 (f g : Foot) : Bool :=
  (f.wr.isEmpty || (disj f.wr (g.root :: (g.rd ++ g.wr ++ g.vr)) && g.nj)) && (g.wr.isEmpty || disj g.wr (f.root :: (f.rd ++ f.vr)))
def vo1 (d : Option (Path → Bool)) : Option (List TV) → Bool
  | some us => liveL d us
  | none => false
def pair2 (f g : Foot) : Bool → Bool
  | true => true
  | false => vo1 g.dd f.vo || (g.nj && vo1 f.dd g.vo)
/-- The second may come first. -/
def pairOk (f g : Foot) : Bool := pair2 f g (pair1 f g)
/-- A mark ahead of 'free': a store that may come before loads of what it moves. -/
def marked (l : List Nat) : Bool := l.headD 0 == 1000000
def unmark (l : List Nat) : List Nat := if marked l then l.tail else l
/-- What such a store looks at and turns, its value aside. -/
def lateFoot (f : Foot) : Foot := ⟨f.rd.take 1, f.wr.take 1, [], f.root, true, none, none⟩
def chkA (fs : List Foot) (ks : List Nat) (g : Foot) : Bool := ks.all fun k => match fs[k]? with
  | some f => pairOk f g
  | none => false
def chkL (fs : List Foot) (ks : List Nat) (g : Foot) : Bool := ks.all fun k => match fs[k]? with
  | some f => pair1 f (lateFoot g)
  | none => false
def chkB (fs : List Foot) (ks : List Nat) (g : Foot) : Bool := disj (g.wr.take 1) (g.rd.drop 1) && chkL fs ks g
def chk (fs : List Foot) (free : List Nat) (g : Foot) : Bool := chkA fs (unmark free) g || (marked free && chkB fs (unmark free) g)

def drawW (P : Program) : List TOper → List Foot → St → (St → Prop) → Prop
  | [], _, st, Q => Q st
  | o :: os, fs, st, Q => wantW st o.guard fun b =>
      (b = true → opW P st o.root o.op fun E => chk fs o.free (footOf st o E) = true ∧ drawW P os (fs ++ [footOf st o E]) (st.put o.dst E) Q) ∧
      (b = false → chk fs o.free (foot0 o) = true ∧ drawW P os (fs ++ [foot0 o]) (st.undef o.dst) Q)

def twp (P : Program) : TCode → (TExit → St → Prop) → St → Prop
  | .skip, Q, st => Q .normal st
  | .ops l, Q, st => opsW P l st (Q .normal)
  | .draw l, Q, st => drawW P l [] st (Q .normal)
  | .seq a b, Q, st => twp P a (fun e s => match e with | .normal => twp P b Q s | e => Q e s) st
  | .cond c a b, Q, st => match c.ev st with
    | .b x => (x = true → twp P a Q st) ∧ (x = false → twp P b Q st)
    | _ => False
  | .block id a, Q, st => twp P a (fun e s => match e with | .exit i => if i = id then Q .normal s else Q (.exit i) s | e => Q e s) st
  | .loop a, Q, st => ∃ (I : Nat → St → Prop) (rs : List Nat) (mv : List (Nat × Nat)), 0 ∉ rs ∧ renOk (st.drop rs) mv ∧ (∃ n, I n ((st.drop rs).rens mv)) ∧
      ∀ n s, I n s → twp P a (fun e s' => match e with | .normal => ∃ m, m < n ∧ I m (s'.drop rs) | e => Q e s') s
  | .exit id, Q, st => Q (.exit id) st
  | .ret, Q, st => Q .ret st
end Go.Proofs.YtloodkhdngipbaaT
