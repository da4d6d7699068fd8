/- Texts of this session's own, one behind the other: TmF, TmG, TmH, TmI, TmJ, TmK. -/
import Derived.Test.YtmedelmfkciblaaPk2
import Derived.Laws.StructEq
namespace Go.Proofs.YtmedelmfkciblaaT
set_option linter.unusedVariables false
set_option linter.unusedSimpArgs false
open Go
structure St where
 t : Nat → TV
 H : Hp
 org : Path → Option Nat
inductive TOpd where
 | t (n : Nat)
 | c (v : TV)
 deriving Inhabited
def TOpd.ev (st : St) : TOpd → TV
 | .t n => st.t n
 | .c v => v
inductive EK where
 | b | i | f | s
 deriving DecidableEq, Inhabited
inductive TOp where
 | mv (x : TOpd)
 | pick (c a b : TOpd)
 | box (n : Nat) (x : TOpd)
 | build (zero : List TV) (parts : List (Nat × Nat × TOpd))
 | bslice (z len : Nat) (zero : List TV) (parts : List (Nat × TOpd))
 | load (agg : Bool) (n : Nat) (a : TOpd)
 | store (n : Nat) (a x : TOpd)
 | nilck (x : TOpd)
 | bin (o : BinOp) (x y : TOpd)
 | eqs (neg agg : Bool) (ks : List EK) (x y : TOpd)
 | eqp (neg : Bool) (x y : TOpd)
 | un (o : UnOp) (x : TOpd)
 | toInt (k : IntKind) (x : TOpd)
 | toF (x : TOpd)
 | toS (x : TOpd)
 | mkfn (g : FuncId) (caps : List TOpd)
 | mkslice (z bytes : Nat) (zero : List TV) (len cap : TOpd)
 | slice (str : Bool) (z : Nat) (x : TOpd) (lo hi : Option TOpd)
 | faddr (off n : Nat) (x : TOpd)
 | fld (agg : Bool) (off n : Nat) (x : TOpd)
 | iaddr (z : Nat) (x i : TOpd)
 | ix (x i : TOpd)
 | ext (k : Nat) (x : TOpd)
 | len (str : Bool) (x : TOpd)
 | maxi (x y : TOpd)
 | app (z bytes : Nat) (s x : TOpd)
 | call (g : FuncId) (args : List (TOpd × Nat))
 | callv (f : TOpd) (args : List (TOpd × Nat))
 deriving Inhabited
structure TOper where
 dst : Option Nat
 root : Nat
 op : TOp
 guard : Option (Nat × Bool)
 free : List Nat
 deriving Inhabited
inductive TCode where
 | skip
 | ops (l : List TOper)
 | draw (l : List TOper)
 | seq (a b : TCode)
 | cond (c : TOpd) (a b : TCode)
 | block (id : Nat) (a : TCode)
 | loop (a : TCode)
 | exit (id : Nat)
 | ret
 deriving Inhabited
def cellsT : TV → List TV
 | .ag cs => cs
 | u => [u]
def cellsV : Value → List Value
 | .agg cs => cs.toList
 | v => [v]
def isAg : TV → Bool
 | .ag _ => true
 | _ => false
def isAgV : Value → Bool
 | .agg _ => true
 | _ => false
inductive Mode where
 | ro | own
 deriving DecidableEq, Inhabited
def ownCells : List Mode → List TV → List TV
 | .ro :: ms, _ :: us => ownCells ms us
 | _ :: ms, u :: us => cellsT u ++ ownCells ms us
 | _, _ => []
def ownVals : List Mode → List Value → List Value
 | .ro :: ms, _ :: us => ownVals ms us
 | _ :: ms, u :: us => cellsV u ++ ownVals ms us
 | _, _ => []
structure ArgsR (w : World) (κ : Path → Value) (γ : Nat → Nat → Option Path) (A : Nat → Nat → Prop) (ms : List Mode) (args : List TV) (vs : List Value) : Prop where
 len : args.length = vs.length
 lenm : ms.length = args.length
 ag : ∀ (j : Nat) (u : TV) (v : Value), ms[j]? ≠ some .ro → args[j]? = some u → vs[j]? = some v → isAg u = isAgV v ∧ (cellsT u).length = (cellsV v).length
 ro : ∀ (j : Nat) (u : TV) (v : Value), ms[j]? = some .ro → args[j]? = some u → vs[j]? = some v → RV w κ (fun _ => []) A u v
 own : ∀ (m : Nat) (c : TV), (ownCells ms args)[m]? = some c → TR w κ γ A [(1, m)] c (κ [(1, m)])
 val : ∀ (m : Nat) (v : Value), (ownVals ms vs)[m]? = some v → κ [(1, m)] = v
structure ResR (w : World) (κ : Path → Value) (γ : Nat → Nat → Option Path) (A : Nat → Nat → Prop) (res : List TV) (rs : List Value) : Prop where
 len : res.length = rs.length
 ag : ∀ (j : Nat) (u : TV) (v : Value), res[j]? = some u → rs[j]? = some v → isAg u = isAgV v ∧ (cellsT u).length = (cellsV v).length
 cell : ∀ (m : Nat) (c : TV), (res.flatMap cellsT)[m]? = some c → TR w κ γ A [(0, m)] c (κ [(0, m)])
 val : ∀ (m : Nat) (v : Value), (rs.flatMap cellsV)[m]? = some v → κ [(0, m)] = v
def resV (vs : List Value) : Value := match vs with | [v] => v | vs => .tuple vs.toArray
def Contract (P : Program) (al : Bool) (g : FuncId) (ms : List Mode) (args res : List TV) (outs : List (Option TV)) : Prop :=
 ∀ (w : World) (vs : List Value) (κ : Path → Value) (γ : Nat → Nat → Option Path) (A : Nat → Nat → Prop),
  ArgsR w κ γ A ms args vs →
  (∀ b o q, γ b o = some q → b < w.heap.size) → (∀ b o, A b o → b < w.heap.size ∧ γ b o = none) →
  Calls P g vs.toArray w fun e w' => ∃ rs κ' γ', e = .returned (resV rs) ∧ ResR w' κ' γ' (fun b o => al = true ∧ A b o) res rs ∧
   (∀ (m : Nat) (u : TV), outs[m]? = some (some u) → TR w' κ' γ' (fun b o => al = true ∧ A b o) [(1, m)] u (κ [(1, m)])) ∧
   (∀ b o q, γ' b o = some q → b < w'.heap.size ∧ ((∃ q', γ b o = some q') ∨ w.heap.size ≤ b)) ∧
   Chg (fun b o => ∃ q, γ b o = some q) w w'
mutual
def fz : TV → TV
 | .sl _ z es => .sl false z (fzLL es)
 | .po _ cs => .po false (fzL cs)
 | .fn g cs => .fn g (fzL cs)
 | .b x => .b x
 | .i k n => .i k n
 | .f x => .f x
 | .s x => .s x
 | .np => .np
 | .rf p o l => .rf p o l
 | .pt p i f => .pt p i f
 | .ag cs => .ag cs
 | .tu cs => .tu cs
 | .junk => .junk
 | .pin v => .pin v
def fzL : List TV → List TV
 | [] => []
 | u :: us => fz u :: fzL us
def fzLL : List (List TV) → List (List TV)
 | [] => []
 | e :: es => fzL e :: fzLL es
end
def offE (off len : Nat) : Nat := if len = 0 then off + 1 else off
def rows : TV → Option (List (List TV))
 | .sl true _ es => some es
 | .po true cs => some [cs]
 | _ => none
def rowAt (H : Hp) (p : Path) (i : Nat) : Option (List TV) := ((cellAt H p).bind rows).bind (·[i]?)
def toRef (q : Path) : TV → TV
 | .sl true _ es => .rf q 0 es.length
 | .po true _ => .pt q 0 0
 | .rf .. | .pt .. | .ag _ | .tu _ => .junk
 | .fn g cs => if norefL cs = true then .fn g cs else .junk
 | u => u
def refsFrom (p : Path) (i : Nat) : Nat → List TV → List TV
 | _, [] => []
 | f, u :: us => toRef (p ++ [(i, f)]) u :: refsFrom p i (f + 1) us
mutual
def roT (H : Hp) (n : Nat) : TV → Option (TV × Bool)
 | .rf p off len => match cellAt H p with
  | some (.sl true z es) => some (.sl false z (fzLL ((es.drop off).take len)), true)
  | _ => none
 | .pt p i f => (rowAt H p i).bind fun cs => if n = 0 then (if f ≤ cs.length then some (.po false (fzL (cs.drop f)), true) else none) else if f + n ≤ cs.length then some (.po false (fzL ((cs.drop f).take n)), true) else none
 | .ag cs => (roL H n cs).bind fun x => some (.ag x.1, x.2)
 | .fn g cs => (roL H 0 cs).bind fun x => some (.fn g x.1, x.2)
 | .sl true z [] => some (.sl false z [], false)
 | .sl true _ (_ :: _) | .po true _ | .tu _ | .junk => none
 | .sl false z es => some (.sl false z es, false)
 | .po false cs => some (.po false cs, false)
 | .b x => some (.b x, false)
 | .i k m => some (.i k m, false)
 | .f x => some (.f x, false)
 | .s x => some (.s x, false)
 | .np => some (.np, false)
 | .pin v => some (.pin v, false)
def roL (H : Hp) (n : Nat) : List TV → Option (List TV × Bool)
 | [] => some ([], false)
 | u :: us => (roT H n u).bind fun x => (roL H n us).bind fun y => some (x.1 :: y.1, x.2 || y.2)
end
mutual
def rootsT : TV → List Nat
 | .rf p _ _ => (p.head?.map (·.1)).toList
 | .pt p _ _ => (p.head?.map (·.1)).toList
 | .ag cs => rootsL cs
 | .tu cs => rootsL cs
 | .fn _ cs => rootsL cs
 | .b _ | .i .. | .f _ | .s _ | .np | .sl .. | .po .. | .junk | .pin _ => []
def rootsL : List TV → List Nat
 | [] => []
 | u :: us => rootsT u ++ rootsL us
end
structure Eff where
 v : TV
 dead : Option (Path → Bool)
 H : Hp
 wr : List Nat
 nr : Option Nat := none
 norg : List (Option Nat) := []
def under (ds : List Path) (q : Path) : Bool := ds.any (fun p => p.isPrefixOf q)
def setRoot (H : Hp) (r : Nat) (cs : List TV) : Hp := fun y => if y = r then cs else H y
def eqT : EK → TV → TV → Option Bool
 | .b, .b x, .b y => some (x == y)
 | .i, .i k a, .i k' b => if k = k' then some (a == b) else none
 | .s, .s a, .s b => some (a.toList == b.toList)
 | .f, .f a, .f b => some (FloatKind.f64.format.order a b == some .eq)
 | _, _, _ => none
def eqL : List EK → List TV → List TV → Option Bool
 | [], [], [] => some true
 | k :: ks, a :: as, b :: bs => (eqT k a b).bind fun x => (eqL ks as bs).bind fun y => some (x && y)
 | _, _, _ => none
def nanC : Nat := 9221120237041090561
def fltArith (o : BinOp) (x y : Nat) : Nat :=
 (match o with
 | .add => FloatKind.f64.format.add x y
 | .sub => FloatKind.f64.format.sub x y
 | .mul => FloatKind.f64.format.mul x y
 | .quo => FloatKind.f64.format.div x y
 | _ => none).elim nanC canon
def binT (o : BinOp) : TV → TV → (TV → Prop) → Prop
 | .i k a, .i k' b, K => match o with
  | .shl => 0 ≤ b ∧ K (.i k (k.wrap (a * 2 ^ (min b.toNat k.bits))))
  | .shr => 0 ≤ b ∧ K (.i k (a.fdiv (2 ^ (min b.toNat k.bits))))
  | .add => k = k' ∧ K (.i k (k.wrap (a + b)))
  | .sub => k = k' ∧ K (.i k (k.wrap (a - b)))
  | .mul => k = k' ∧ K (.i k (k.wrap (a * b)))
  | .quo => k = k' ∧ b ≠ 0 ∧ K (.i k (k.wrap (a.tdiv b)))
  | .rem => k = k' ∧ b ≠ 0 ∧ K (.i k (a.tmod b))
  | .and => k = k' ∧ K (.i k (k.wrap (BitVec.ofInt k.bits a &&& BitVec.ofInt k.bits b).toNat))
  | .or => k = k' ∧ K (.i k (k.wrap (BitVec.ofInt k.bits a ||| BitVec.ofInt k.bits b).toNat))
  | .xor => k = k' ∧ K (.i k (k.wrap (BitVec.ofInt k.bits a ^^^ BitVec.ofInt k.bits b).toNat))
  | .andNot => k = k' ∧ K (.i k (k.wrap (BitVec.ofInt k.bits a &&& ~~~ BitVec.ofInt k.bits b).toNat))
  | .eql => k = k' ∧ K (.b (a == b))
  | .neq => k = k' ∧ K (.b (a != b))
  | .lss => k = k' ∧ K (.b (a < b))
  | .leq => k = k' ∧ K (.b (a ≤ b))
  | .gtr => k = k' ∧ K (.b (a > b))
  | .geq => k = k' ∧ K (.b (a ≥ b))
 | .s a, .s b, K => match o with
  | .add => a.size + b.size < 2 ^ 62 ∧ K (.s (a ++ b))
  | .eql => K (.b (a.toList == b.toList))
  | .neq => K (.b (!(a.toList == b.toList)))
  | .lss => K (.b (Op.bytesLess a.toList b.toList))
  | _ => False
 | .f a, .f b, K => match o with
  | .add => K (.f (fltArith .add a b))
  | .sub => K (.f (fltArith .sub a b))
  | .mul => K (.f (fltArith .mul a b))
  | .quo => K (.f (fltArith .quo a b))
  | .eql => K (.b (FloatKind.f64.format.order a b == some .eq))
  | .neq => K (.b (FloatKind.f64.format.order a b != some .eq))
  | .lss => K (.b (FloatKind.f64.format.order a b == some .lt))
  | .leq => K (.b (FloatKind.f64.format.order a b == some .lt || FloatKind.f64.format.order a b == some .eq))
  | .gtr => K (.b (FloatKind.f64.format.order a b == some .gt))
  | .geq => K (.b (FloatKind.f64.format.order a b == some .gt || FloatKind.f64.format.order a b == some .eq))
  | _ => False
 | _, _, _ => False
def elemsOf (H : Hp) : TV → Option (List (List TV))
 | .sl false _ es => some es
 | .sl true _ [] => some []
 | .rf p off len => match cellAt H p with
  | some (.sl true _ es) => some ((es.drop off).take len)
  | _ => none
 | _ => none
def lenT : Bool → TV → Option Nat
 | false, .sl false _ es => some es.length
 | false, .sl true _ [] => some 0
 | false, .rf _ _ len => some len
 | true, .s a => some a.size
 | _, _ => none
def fitB : TV → Bool
 | .junk | .tu _ | .ag _ => false
 | _ => true
def putParts (zero : List TV) : List (Nat × Nat × TV) → Option (List TV)
 | [] => some zero
 | (off, n, u) :: rest => if (cellsT u).length = n ∧ off + n ≤ zero.length ∧ (cellsT u).all fitB = true then putParts (zero.take off ++ cellsT u ++ zero.drop (off + n)) rest else none
def putElems (z : Nat) (es : List (List TV)) : List (Nat × TV) → Option (List (List TV))
 | [] => some es
 | (i, u) :: rest => if (cellsT u).length = z ∧ (cellsT u).all fitB = true then putElems z (es.set i (cellsT u)) rest else none
def bytesT : List (List TV) → Option (List UInt8)
 | [] => some []
 | [.i .u8 n] :: rest => (bytesT rest).bind fun bs => some (UInt8.ofNat n.toNat :: bs)
 | _ => none
def tkOf (u : TV) (us : List TV) : TV := if isAg u then .ag us else us.headD .junk
def pathOf : TV → Option Path
 | .rf p 0 _ => some p
 | .pt p 0 0 => some p
 | _ => none
def takeArgs (H : Hp) : List Mode → List (TV × Nat) → Option (List TV × Hp × List Path × List (Option Path))
 | [], [] => some ([], H, [], [])
 | .ro :: ms, _ :: as => (takeArgs H ms as).bind fun y => some (.junk :: y.1, y.2.1, y.2.2.1, y.2.2.2)
 | .own :: ms, (u, _) :: as => (takeL (cellsT u) H).bind fun x => (takeArgs x.2.1 ms as).bind fun y =>
   some (tkOf u x.1 :: y.1, y.2.1, x.2.2 ++ y.2.2.1, (cellsT u).map pathOf ++ y.2.2.2)
 | _, _ => none
def roArgs (H : Hp) : List Mode → List (TV × Nat) → List TV → Option (List TV × Bool)
 | [], [], [] => some ([], false)
 | .ro :: ms, (u, n) :: as, _ :: ts => (roT H n u).bind fun x => (roArgs H ms as ts).bind fun y => some (x.1 :: y.1, x.2 || y.2)
 | _ :: ms, _ :: as, t :: ts => (roArgs H ms as ts).bind fun y => some (t :: y.1, y.2)
 | _, _, _ => none
def putBack (H : Hp) : List (Option Path) → List TV → Hp
 | some p :: bs, u :: us => putBack (modH H (fun _ => u) p) bs us
 | _ :: bs, _ :: us => putBack H bs us
 | _, _ => H
def backsOf : List (Option Path) → List (Option TV) → List (Option Path)
 | p :: ps, some _ :: os => p :: backsOf ps os
 | _ :: ps, none :: os => none :: backsOf ps os
 | _, _ => []
def outsT (os : List (Option TV)) : List TV := os.map (·.getD .junk)
def backOk (H H1 : Hp) : List (Option Path) → List (Option TV) → Prop
 | some p :: ps, some u :: os => (shape u = shapeAt H p ∧ (cellAt H1 p).isSome = true ∧ some p ∉ backsOf ps os) ∧ backOk H H1 ps os
 | none :: ps, some _ :: os => backOk H H1 ps os
 | _ :: ps, none :: os => backOk H H1 ps os
 | [], [] => True
 | _, _ => False
def takeRows (p : Path) : Nat → List (List TV) → Hp → Option (List (List TV) × Hp × List Path)
 | _, [], H => some ([], H, [])
 | i, e :: es, H => (takeL (refsFrom p i 0 e) H).bind fun x => (takeRows p (i + 1) es x.2.1).bind fun y => some (x.1 :: y.1, y.2.1, x.2.2 ++ y.2.2)
def srcT (H : Hp) : TV → Option (Nat × List (List TV) × Hp × List Path)
 | .rf p off len => match cellAt H p with
  | some (.sl true z es) => if ((es.drop off).take len).all (·.all noref) then some (z, (es.drop off).take len, H, []) else (takeRows p off ((es.drop off).take len) H).map fun x => (z, x)
  | _ => none
 | .sl false z es => if es.all (·.all noref) then some (z, es, H, []) else none
 | .sl true z [] => some (z, [], H, [])
 | _ => none
def chunk (z : Nat) : Nat → List TV → List (List TV)
 | 0, _ => []
 | n + 1, us => us.take z :: chunk z n (us.drop z)
def zeroOk : TV → Bool
 | .sl true _ [] => true
 | u => noref u
def isOwn (u : TV) : Bool := (shape u).isSome
def refTu (r : Nat) : Nat → List TV → List TV
 | _, [] => []
 | k, .ag cs :: us => .ag (refsFrom [] r k cs) :: refTu r (k + cs.length) us
 | k, u :: us => toRef [(r, k)] u :: refTu r (k + 1) us
def resT : List TV → TV
 | [u] => u
 | us => .tu us
def nilT : TV → Bool
 | .sl true _ [] => true
 | _ => false
def ContractA (P : Program) (nn : List Bool) (al : Bool) (g : FuncId) (ms : List Mode) (args res : List TV) (outs : List (Option TV)) : Prop :=
 ∀ (w : World) (vs : List Value) (κ : Path → Value) (γ : Nat → Nat → Option Path) (A : Nat → Nat → Prop),
  (∀ (j : Nat) (v : Value), nn[j]? = some true → vs[j]? = some v → v = .slice none 0 0) → ArgsR w κ γ A ms args vs →
  (∀ b o q, γ b o = some q → b < w.heap.size) → (∀ b o, A b o → b < w.heap.size ∧ γ b o = none) →
  Calls P g vs.toArray w fun e w' => ∃ rs κ' γ', e = .returned (resV rs) ∧ ResR w' κ' γ' (fun b o => al = true ∧ A b o) res rs ∧
   (∀ (m : Nat) (u : TV), outs[m]? = some (some u) → TR w' κ' γ' (fun b o => al = true ∧ A b o) [(1, m)] u (κ [(1, m)])) ∧
   (∀ b o q, γ' b o = some q → b < w'.heap.size ∧ ((∃ q', γ b o = some q') ∨ w.heap.size ≤ b)) ∧
   Chg (fun b o => ∃ q, γ b o = some q) w w'
theorem Contract.toA {P : Program} {al : Bool} {g : FuncId} {ms : List Mode} {args res : List TV} {outs : List (Option TV)} (h : Contract P al g ms args res outs) (nn : List Bool) : ContractA P nn al g ms args res outs :=
 fun w vs κ γ A _ => h w vs κ γ A
def callW (P : Program) (st : St) (root : Nat) (g : FuncId) (as : List (TV × Nat)) (K : Eff → Prop) : Prop :=
 ∃ al ms args res outs, ContractA P (as.map fun a => nilT a.1) al g ms args res outs ∧ st.H root = [] ∧ 2 ≤ root ∧
  ∃ tk H1 ds ps ro, takeArgs st.H ms as = some (tk, H1, ds, ps) ∧ roArgs H1 ms as tk = some (args, ro) ∧ (al = true → ro = false) ∧ backOk st.H H1 ps outs ∧
   K (if (res.flatMap cellsT).any isOwn then
     { v := resT (refTu root 0 res), dead := if ds = [] then none else some (fun q => under ds q && !((backsOf ps outs).any (· == some q))), H := setRoot (putBack H1 (backsOf ps outs) (outsT outs)) root (res.flatMap cellsT), wr := root :: ds.filterMap (fun p => p.head?.map (·.1)), nr := some root }
    else { v := resT res, dead := if ds = [] then none else some (fun q => under ds q && !((backsOf ps outs).any (· == some q))), H := putBack H1 (backsOf ps outs) (outsT outs), wr := ds.filterMap (fun p => p.head?.map (·.1)) })
def orgOf (st : St) : Path → Option Nat
 | [s] => if s.1 = 1 then some s.2 else st.org [s]
 | p => st.org p
def norgOf (st : St) : TV → Option Nat
 | .rf p 0 len => if (shapeAt st.H p).map (·.2.2) = some len then orgOf st p else none
 | .pt p 0 0 => if (shapeAt st.H p).map (·.1) = some false then orgOf st p else none
 | _ => none
def callable (P : Program) (g : FuncId) : Bool := match P.funcs[g]? with
 | some fn => fn.body.isSome && fn.name != "runtime.NumGoroutine"
 | none => false
def val (st : St) (v : TV) : Eff := { v, dead := none, H := st.H, wr := [] }
def optB (st : St) (d : Int) : Option TOpd → (Int → Prop) → Prop
 | none, K => K d
 | some x, K => match x.ev st with
  | .i _ n => K n
  | _ => False
def isJ : TV → Bool
 | .junk => true
 | _ => false
def freeR (H : Hp) (r : Nat) : Bool := (H r).all isJ
def opW (P : Program) (st : St) (root : Nat) (op : TOp) (K : Eff → Prop) : Prop :=
 match op with
 | .mv x => K (val st (x.ev st))
 | .pick c a b => match c.ev st with
  | .b x => K (val st (if x then a.ev st else b.ev st))
  | _ => False
 | .box n x => match takeL (cellsT (x.ev st)) st.H with
  | some (us, H1, ds) => us.length = n ∧ st.H root = [] ∧ 2 ≤ root ∧
    K { v := .pt [(root, 0)] 0 0, dead := if ds = [] then none else some (under ds), H := setRoot H1 root [.po true us], wr := root :: ds.filterMap (fun p => p.head?.map (·.1)), nr := some root, norg := (cellsT (x.ev st)).map (norgOf st) }
  | none => False
 | .build zero parts => match putParts zero (parts.map fun x => (x.1, x.2.1, x.2.2.ev st)) with
  | some cs => K (val st (.ag cs))
  | none => False
 | .bslice z len zero parts => match putElems z (List.replicate len zero) (parts.map fun x => (x.1, x.2.ev st)) with
  | some es => match takeL es.flatten st.H with
   | some (us, H1, ds) => st.H root = [] ∧ 2 ≤ root ∧ zero.length = z ∧
     K { v := .rf [(root, 0)] 0 len, dead := if ds = [] then none else some (under ds), H := setRoot H1 root [.sl true z (chunk z len us)], wr := root :: ds.filterMap (fun p => p.head?.map (·.1)), nr := some root }
   | none => False
  | none => False
 | .load agg n a => match a.ev st with
  | .pt p i f => match rowAt st.H p i with
   | some cs => f + n ≤ cs.length ∧ (if agg then K (val st (.ag (refsFrom p i f ((cs.drop f).take n)))) else n = 1 ∧ K (val st ((refsFrom p i f ((cs.drop f).take 1)).headD .junk)))
   | none => False
  | .po false cs => n ≤ cs.length ∧ (if agg then K (val st (.ag (cs.take n))) else n = 1 ∧ K (val st (cs.headD .junk)))
  | _ => False
 | .store n a x => match a.ev st with
  | .pt p i f => match takeL (cellsT (x.ev st)) st.H with
   | some (us, H1, ds) => us.length = n ∧ (match rowAt H1 p i with | some cs => f + n ≤ cs.length | none => False) ∧
     K { v := .junk, dead := some (fun q => under ds q || under ((List.range n).map fun j => p ++ [(i, f + j)]) q), H := putL p i f us H1, wr := (p.head?.map (·.1)).toList ++ ds.filterMap (fun p => p.head?.map (·.1)) }
   | none => False
  | _ => False
 | .nilck x => match x.ev st with
  | .pt p i f => K (val st (.pt p i f))
  | .po false cs => K (val st (.po false cs))
  | .fn g cs => K (val st (.fn g cs))
  | _ => False
 | .bin o x y => binT o (x.ev st) (y.ev st) fun v => K (val st v)
 | .eqs neg agg ks x y => match eqL ks (cellsT (x.ev st)) (cellsT (y.ev st)) with
  | some r => isAg (x.ev st) = agg ∧ isAg (y.ev st) = agg ∧ K (val st (.b (r ^^ neg)))
  | none => False
 | .eqp neg x y => match x.ev st, y.ev st with
  | .np, .np => K (val st (.b (!neg)))
  | .np, .pt .. | .np, .po false _ | .pt .., .np | .po false _, .np => K (val st (.b neg))
  | _, _ => False
 | .un o x => match o, x.ev st with
  | .not, .b x => K (val st (.b (!x)))
  | .neg, .i k n => K (val st (.i k (k.wrap (0 - n))))
  | .neg, .f x => K (val st (.f (canon (Op.negFloat .f64 x))))
  | _, _ => False
 | .toInt k x => match x.ev st with
  | .i _ n => K (val st (.i k (k.wrap n)))
  | .f b => match (FloatKind.f64.decode b).toInt .zero with
   | some n => k.min ≤ n ∧ n ≤ k.max ∧ K (val st (.i k n))
   | none => False
  | _ => False
 | .toF x => match x.ev st with
  | .i _ n => K (val st (.f (canon (FloatKind.f64.nearest n))))
  | .f b => K (val st (.f b))
  | _ => False
 | .toS x => match (elemsOf st.H (x.ev st)).bind bytesT with
  | some bs => K (val st (.s ⟨bs.toArray⟩))
  | none => False
 | .mkfn g caps => K (val st (.fn g (caps.map (·.ev st))))
 | .mkslice z bytes zero len cap => match len.ev st, cap.ev st with
  | .i .i64 l, .i .i64 c => 0 ≤ l ∧ l = c ∧ bytes * l ≤ 2 ^ 47 ∧ st.H root = [] ∧ 2 ≤ root ∧ zero.length = z ∧ zero.all zeroOk = true ∧
    K { v := .rf [(root, 0)] 0 l.toNat, dead := none, H := setRoot st.H root [.sl true z (List.replicate l.toNat zero)], wr := [root], nr := some root }
  | _, _ => False
 | .slice true _ x lo hi => match x.ev st with
  | .s a => optB st 0 lo fun l => optB st a.size hi fun h => 0 ≤ l ∧ l ≤ h ∧ h ≤ a.size ∧ K (val st (.s (a.extract l.toNat h.toNat)))
  | _ => False
 | .slice false z x lo hi => match x.ev st with
  | .sl false z' es => z' = z ∧ optB st 0 lo fun l => optB st es.length hi fun h => 0 ≤ l ∧ l ≤ h ∧ h ≤ es.length ∧ K (val st (.sl false z' ((es.drop l.toNat).take (h.toNat - l.toNat))))
  | .sl true z' [] => optB st 0 lo fun l => optB st 0 hi fun h => l = 0 ∧ h = 0 ∧ K (val st (.sl true z' []))
  | .rf p off len => (shapeAt st.H p).map (fun s => s.2.1) = some z ∧ optB st 0 lo fun l => optB st len hi fun h => 0 ≤ l ∧ l ≤ h ∧ h ≤ len ∧ K (val st (.rf p (offE (off + l.toNat) (h.toNat - l.toNat)) (h.toNat - l.toNat)))
  | _ => False
 | .faddr off n x => match x.ev st with
  | .pt p i f => match rowAt st.H p i with
   | some cs => f + off + n ≤ cs.length ∧ K (val st (.pt p i (f + off)))
   | none => False
  | .po false cs => off + n ≤ cs.length ∧ K (val st (.po false ((cs.drop off).take n)))
  | _ => False
 | .fld agg off n x => match x.ev st with
  | .ag cs => off + n ≤ cs.length ∧ (if agg then K (val st (.ag ((cs.drop off).take n))) else n = 1 ∧ K (val st (((cs.drop off).take 1).headD .junk)))
  | _ => False
 | .iaddr z x ix => match x.ev st, ix.ev st with
  | .sl false z' es, .i _ n => match (if 0 ≤ n then es[n.toNat]? else none) with
   | some e => z' = z ∧ K (val st (.po false e))
   | none => False
  | .rf p off len, .i _ n => 0 ≤ n ∧ n < len ∧ (shapeAt st.H p).map (fun s => s.2.1) = some z ∧ K (val st (.pt p (off + n.toNat) 0))
  | _, _ => False
 | .ix x ix => match x.ev st, ix.ev st with
  | .s a, .i _ n => match (if 0 ≤ n then a[n.toNat]? else none) with
   | some b => K (val st (.i .u8 b.toNat))
   | none => False
  | _, _ => False
 | .ext k x => match x.ev st with
  | .tu vs => match vs[k]? with
   | some v => K (val st v)
   | none => False
  | _ => False
 | .len str x => match lenT str (x.ev st) with
  | some n => K (val st (.i .i64 n))
  | none => False
 | .maxi x y => match x.ev st, y.ev st with
  | .i k a, .i _ b => K (val st (.i k (if b > a then b else a)))
  | _, _ => False
 | .app z bytes s x => match srcT st.H (x.ev st) with
  | some (z2, es2, H1, d1) => match take1 H1 (s.ev st) with
   | some (.sl true z' es, H2, d2) => z' = z ∧ z2 = z ∧ freeR H2 root = true ∧ 2 ≤ root ∧ bytes * (es.length + es2.length) ≤ 2 ^ 47 ∧
     K { v := .rf [(root, 0)] 0 (es.length + es2.length), dead := if d1 ++ d2 = [] then none else some (under (d1 ++ d2)), H := setRoot H2 root [.sl true z (es ++ es2)], wr := root :: (d1 ++ d2).filterMap (fun p => p.head?.map (·.1)), nr := some root }
   | _ => False
  | none => False
 | .call g args => callW P st root g (args.map fun x => (x.1.ev st, x.2)) K
 | .callv f args => match f.ev st with
  | .fn g caps => callable P g = true ∧ callW P st root g (args.map (fun x => (x.1.ev st, x.2)) ++ caps.map fun c => (c, 0)) K
  | _ => False
def deadT : Option (Path → Bool) → TV → TV
 | none, u => u
 | some d, u => killT d u
def deadB : Option (Path → Bool) → Path → Bool
 | none, _ => false
 | some d, q => d q
def orgPut (st : St) (E : Eff) (q : Path) : Option Nat :=
 match q with
 | [] => st.org []
 | s :: r => if E.nr = some s.1 then (match r with
   | [t] => if s.2 = 0 ∧ t.1 = 0 then (E.norg[t.2]?).bind id else none
   | _ => none) else if deadB E.dead q = true then none else st.org q
def St.put (st : St) (dst : Option Nat) (E : Eff) : St where
 t := fun k => if dst = some k then E.v else deadT E.dead (st.t k)
 H := E.H
 org := orgPut st E
def St.undef (st : St) (dst : Option Nat) : St where
 t := fun k => if dst = some k then .tu [] else st.t k
 H := st.H
 org := st.org
def St.drop (st : St) (rs : List Nat) : St where
 t := fun k => killT (fun q => match q.head? with | some s => rs.contains s.1 | none => false) (st.t k)
 H := fun y => if rs.contains y then [] else st.H y
 org := st.org
def renP (a b : Nat) : Path → Path
 | [] => []
 | s :: r => (if s.1 = a then (b, s.2) else s) :: r
mutual
def renT (a b : Nat) : TV → TV
 | .rf p o l => .rf (renP a b p) o l
 | .pt p i f => .pt (renP a b p) i f
 | .ag cs => .ag (renTL a b cs)
 | .tu cs => .tu (renTL a b cs)
 | .fn g cs => .fn g (renTL a b cs)
 | .b x => .b x
 | .i k n => .i k n
 | .f x => .f x
 | .s x => .s x
 | .np => .np
 | .sl o z es => .sl o z es
 | .po o cs => .po o cs
 | .junk => .junk
 | .pin v => .pin v
def renTL (a b : Nat) : List TV → List TV
 | [] => []
 | u :: us => renT a b u :: renTL a b us
end
def renO (a b : Nat) (o : Path → Option Nat) : Path → Option Nat
 | [] => o []
 | s :: r => if s.1 = b then o ((a, s.2) :: r) else if s.1 = a then none else o (s :: r)
def renH (a b : Nat) (H : Hp) : Hp := fun y => if y = b then H a else if y = a then [] else H y
def St.ren (st : St) (a b : Nat) : St := ⟨fun k => renT a b (st.t k), renH a b st.H, renO a b st.org⟩
def St.rens (st : St) : List (Nat × Nat) → St
 | [] => st
 | (a, b) :: mv => (st.ren a b).rens mv
def renOk (st : St) : List (Nat × Nat) → Prop
 | [] => True
 | (a, b) :: mv => (2 ≤ a ∧ 2 ≤ b ∧ a ≠ b ∧ st.H b = []) ∧ renOk (st.ren a b) mv
def gB (w : Bool) : TV → Option Bool
 | .b x => some (x == w)
 | .tu _ => some false
 | _ => none
def wantW (st : St) : Option (Nat × Bool) → (Bool → Prop) → Prop
 | none, K => K true
 | some (t, want), K => match gB want (st.t t) with
  | some b => K b
  | none => False
def opsW (P : Program) : List TOper → St → (St → Prop) → Prop
 | [], st, Q => Q st
 | o :: os, st, Q => wantW st o.guard fun b => (b = true → opW P st o.root o.op fun E => opsW P os (st.put o.dst E) Q) ∧ (b = false → opsW P os (st.undef o.dst) Q)
inductive TExit where
 | normal
 | exit (id : Nat)
 | ret
def TOpd.tm : TOpd → List Nat
 | .t n => [n]
 | .c _ => []
def tmsO : Option TOpd → List Nat
 | none => []
 | some x => x.tm
def evO (st : St) : Option TOpd → List TV
 | none => []
 | some x => [x.ev st]
def opTm : TOp → List Nat
 | .mv x => x.tm
 | .pick c a b => c.tm ++ a.tm ++ b.tm
 | .box _ x => x.tm
 | .build _ ps => ps.flatMap (·.2.2.tm)
 | .bslice _ _ _ ps => ps.flatMap (·.2.tm)
 | .load _ _ a => a.tm
 | .store _ a x => a.tm ++ x.tm
 | .nilck x => x.tm
 | .bin _ x y => x.tm ++ y.tm
 | .eqs _ _ _ x y => x.tm ++ y.tm
 | .eqp _ x y => x.tm ++ y.tm
 | .un _ x => x.tm
 | .toInt _ x => x.tm
 | .toF x => x.tm
 | .toS x => x.tm
 | .mkfn _ caps => caps.flatMap (·.tm)
 | .mkslice _ _ _ l c => l.tm ++ c.tm
 | .slice _ _ x lo hi => x.tm ++ tmsO lo ++ tmsO hi
 | .faddr _ _ x => x.tm
 | .fld _ _ _ x => x.tm
 | .iaddr _ x i => x.tm ++ i.tm
 | .ix x i => x.tm ++ i.tm
 | .ext _ x => x.tm
 | .len _ x => x.tm
 | .maxi x y => x.tm ++ y.tm
 | .app _ _ s x => s.tm ++ x.tm
 | .call _ args => args.flatMap (·.1.tm)
 | .callv f args => f.tm ++ args.flatMap (·.1.tm)
def extT (k : Nat) : TV → List TV
 | .tu vs => (vs[k]?).toList
 | u => [u]
def opT (st : St) : TOp → List TV
 | .mv x => [x.ev st]
 | .pick c a b => [c.ev st, a.ev st, b.ev st]
 | .box _ x => [x.ev st]
 | .build zero ps => zero ++ ps.map (·.2.2.ev st)
 | .bslice _ _ zero ps => zero ++ ps.map (·.2.ev st)
 | .load _ _ a => [a.ev st]
 | .store _ a x => [a.ev st, x.ev st]
 | .nilck x => [x.ev st]
 | .bin _ x y => [x.ev st, y.ev st]
 | .eqs _ _ _ x y => [x.ev st, y.ev st]
 | .eqp _ x y => [x.ev st, y.ev st]
 | .un _ x => [x.ev st]
 | .toInt _ x => [x.ev st]
 | .toF x => [x.ev st]
 | .toS x => [x.ev st]
 | .mkfn _ caps => caps.map (·.ev st)
 | .mkslice _ _ zero l c => zero ++ [l.ev st, c.ev st]
 | .slice _ _ x lo hi => [x.ev st] ++ evO st lo ++ evO st hi
 | .faddr _ _ x => [x.ev st]
 | .fld _ _ _ x => [x.ev st]
 | .iaddr _ x i => [x.ev st, i.ev st]
 | .ix x i => [x.ev st, i.ev st]
 | .ext k x => extT k (x.ev st)
 | .len _ x => [x.ev st]
 | .maxi x y => [x.ev st, y.ev st]
 | .app _ _ s x => [s.ev st, x.ev st]
 | .call _ args => args.map (·.1.ev st)
 | .callv f args => f.ev st :: args.map (·.1.ev st)
def SameT (st st' : St) : TOp → Prop
 | .ext k x => extT k (x.ev st') = extT k (x.ev st) ∧ ∀ vs, x.ev st = .tu vs → ∃ vs', x.ev st' = .tu vs' ∧ vs'[k]? = vs[k]?
 | op => ∀ k ∈ opTm op, st'.t k = st.t k
mutual
def njT : TV → Bool
 | .junk => false
 | .ag cs => njL cs
 | .tu cs => njL cs
 | .fn _ cs => njL cs
 | .rf .. | .pt .. | .b _ | .i .. | .f _ | .s _ | .np | .sl .. | .po .. | .pin _ => true
def njL : List TV → Bool
 | [] => true
 | u :: us => njT u && njL us
end
def canWr : TOp → Bool
 | .box .. | .bslice .. | .store .. | .mkslice .. | .app .. | .call .. | .callv .. => true
 | _ => false
def liveB (d : Option (Path → Bool)) (p : Path) : Bool := match d with
 | some d => !d p
 | none => true
mutual
def liveT (d : Option (Path → Bool)) : TV → Bool
 | .rf p _ _ => liveB d p
 | .pt p _ _ => liveB d p
 | .ag cs => liveL d cs
 | .tu cs => liveL d cs
 | .fn _ cs => liveL d cs
 | .junk | .b _ | .i .. | .f _ | .s _ | .np | .sl .. | .po .. | .pin _ => true
def liveL (d : Option (Path → Bool)) : List TV → Bool
 | [] => true
 | u :: us => liveT d u && liveL d us
end
def voL (x : TV) : TV → Option (List TV)
 | .rf p off len => some [.ag [.rf p off len, x]]
 | .pt p i f => some [.ag [.pt p i f, x]]
 | _ => none
def isRefT : TV → Bool
 | .rf .. => true
 | .pt .. => true
 | _ => false
def voA (x : TV) : TV → Option (List TV)
 | .ag us => if us.all isRefT && !us.isEmpty then some [.ag [.ag us, x]] else none
 | _ => none
def isAA : TV → Bool
 | .ag (.ag _ :: _) => true
 | _ => false
def voOf (st : St) (v : TV) : TOp → Option (List TV)
 | .mv x => some [v, x.ev st]
 | .nilck x => some [v, x.ev st]
 | .faddr _ _ x => some [.tu [v, x.ev st]]
 | .iaddr _ x ix => some [.tu [v, x.ev st, ix.ev st]]
 | .load false _ x => voL (x.ev st) v
 | .load true _ x => voA (x.ev st) v
 | .app .. => some []
 | .call .. => some [.junk, .junk, .junk]
 | _ => none
structure Foot where
 rd : List Nat
 wr : List Nat
 vr : List Nat
 root : Nat
 nj : Bool
 vo : Option (List TV)
 dd : Option (Path → Bool)
def footOf (st : St) (o : TOper) (E : Eff) : Foot := ⟨rootsL (opT st o.op), E.wr, rootsT E.v, o.root, njL (opT st o.op), voOf st E.v o.op, E.dead⟩
def foot0 (o : TOper) : Foot := ⟨[], [], [], o.root, true, none, none⟩
def disj (a b : List Nat) : Bool := a.all fun r => !b.contains r
def pair1 (f g : Foot) : Bool :=
 (f.wr.isEmpty || (disj f.wr (g.root :: (g.rd ++ g.wr ++ g.vr)) && g.nj)) && (g.wr.isEmpty || disj g.wr (f.root :: (f.rd ++ f.vr)))
def vo1 (d : Option (Path → Bool)) : Option (List TV) → Bool
 | some [a, b] => liveL d [a, b]
 | _ => false
def rdA (d : Option (Path → Bool)) : Option (List TV) → Option (List TV) → Bool
 | some [], some [a] => liveT d a && !isAA a
 | some [_, _, _], some [.ag [v, x]] => liveT d (.ag [v, x])
 | _, _ => false
def pair2 (f g : Foot) : Bool → Bool
 | true => true
 | false => vo1 g.dd f.vo || (g.nj && vo1 f.dd g.vo) || rdA g.dd g.vo f.vo
def pairOk (f g : Foot) : Bool := pair2 f g (pair1 f g)
def marked (l : List Nat) : Bool := l.headD 0 == 1000000
def unmark (l : List Nat) : List Nat := if marked l then l.tail else l
def lateFoot (f : Foot) : Foot := ⟨f.rd.take 1, f.wr.take 1, [], f.root, true, none, none⟩
def chkA (fs : List Foot) (ks : List Nat) (g : Foot) : Bool := ks.all fun k => match fs[k]? with
 | some f => pairOk f g
 | none => false
def chkL (fs : List Foot) (ks : List Nat) (g : Foot) : Bool := ks.all fun k => match fs[k]? with
 | some f => pair1 f (lateFoot g)
 | none => false
def chkB (fs : List Foot) (ks : List Nat) (g : Foot) : Bool := disj (g.wr.take 1) (g.rd.drop 1) && chkL fs ks g
def chk (fs : List Foot) (free : List Nat) (g : Foot) : Bool := chkA fs (unmark free) g || (marked free && chkB fs (unmark free) g)
def drawW (P : Program) : List TOper → List Foot → St → (St → Prop) → Prop
 | [], _, st, Q => Q st
 | o :: os, fs, st, Q => wantW st o.guard fun b =>
   (b = true → opW P st o.root o.op fun E => chk fs o.free (footOf st o E) = true ∧ drawW P os (fs ++ [footOf st o E]) (st.put o.dst E) Q) ∧
   (b = false → chk fs o.free (foot0 o) = true ∧ drawW P os (fs ++ [foot0 o]) (st.undef o.dst) Q)
def twp (P : Program) : TCode → (TExit → St → Prop) → St → Prop
 | .skip, Q, st => Q .normal st
 | .ops l, Q, st => opsW P l st (Q .normal)
 | .draw l, Q, st => drawW P l [] st (Q .normal)
 | .seq a b, Q, st => twp P a (fun e s => match e with | .normal => twp P b Q s | e => Q e s) st
 | .cond c a b, Q, st => match c.ev st with
  | .b x => (x = true → twp P a Q st) ∧ (x = false → twp P b Q st)
  | _ => False
 | .block id a, Q, st => twp P a (fun e s => match e with | .exit i => if i = id then Q .normal s else Q (.exit i) s | e => Q e s) st
 | .loop a, Q, st => ∃ (I : Nat → St → Prop) (rs : List Nat) (mv : List (Nat × Nat)), 0 ∉ rs ∧ renOk (st.drop rs) mv ∧ (∃ n, I n ((st.drop rs).rens mv)) ∧
   ∀ n s, I n s → twp P a (fun e s' => match e with | .normal => ∃ m, m < n ∧ I m (s'.drop rs) | e => Q e s') s
 | .exit id, Q, st => Q (.exit id) st
 | .ret, Q, st => Q .ret st
end Go.Proofs.YtmedelmfkciblaaT


namespace Go.Proofs.YtmedelmfkciblaaT
set_option linter.unusedVariables false
set_option linter.unusedSimpArgs false
open Go
section
variable (P : Program)
def tySize (t : TypeId) : Option Nat := (P.info? t).map (·.size)
def tyBytes (t : TypeId) : Option Nat := (P.info? t).map (·.bytes)
def tyZero (t : TypeId) : Option Value := (P.info? t).bind (·.zero)
def tyAgg (t : TypeId) : Option Bool := (P.underlying t).map fun | .struct _ | .array _ _ => true | _ => false
def tyElem (t : TypeId) : Option TypeId := (P.underlying t).bind fun | .slice e => some e | _ => none
def tyPtr (t : TypeId) : Nat := match P.underlying t with
 | some (.pointer e) => (tySize P e).getD 0
 | _ => 0
def flatTys : Nat → TypeId → List TypeId
 | 0, t => [t]
 | n + 1, t => match P.underlying t with
  | some (.struct fs) => fs.toList.flatMap fun f => flatTys n f.type
  | some (.array k e) => (List.replicate k (flatTys n e)).flatten
  | _ => [t]
def valC (t : TypeId) : Value → Option TV
 | .bool b => some (.b b)
 | .int k n => some (.i k n)
 | .float .f64 x => some (.f (canon x))
 | .string s => some (.s s)
 | .pointer none => some .np
 | .slice none 0 0 => (tyElem P t).bind fun e => (tySize P e).bind fun z => some (.sl true z [])
 | _ => none
def valCs : List TypeId → List Value → Option (List TV)
 | [], [] => some []
 | t :: ts, v :: vs => (valC P t v).bind fun u => (valCs ts vs).bind fun us => some (u :: us)
 | _, _ => none
def valT (t : TypeId) : Value → Option TV
 | .agg cs => (valCs P (flatTys P 8 t) cs.toList).bind fun us => some (.ag us)
 | v => valC P t v
def compOpd (t : TypeId) : Operand → Option TOpd
 | .tmp n => some (.t n)
 | .const v => (valT P t v).bind fun u => some (.c u)
 | .func f => some (.c (.fn f []))
 | .global _ => none
def optAll {α : Type} : List (Option α) → Option (List α)
 | [] => some []
 | x :: xs => x.bind fun a => (optAll xs).bind fun as => some (a :: as)
def ekOf (t : TypeId) : Option EK := match P.underlying t with
 | some .bool => some .b
 | some (.int _) => some .i
 | some (.float .f64) => some .f
 | some .string => some .s
 | _ => none
def flatEq (t : TypeId) : Option (List EK) := match P.underlying t with
 | some (.struct fs) => if !P.stoodInHeld t && !P.eqGuardType P.depth t && (fs.toList.zipIdx.all fun (f, i) => f.name != "_" && f.offset == i) then optAll (fs.toList.map fun f => ekOf P f.type) else none
 | _ => none
def compOp0 (o : Oper) : Option TOp :=
 match o.op with
 | .move x | .assign x => (compOpd P o.type x).bind fun x => some (.mv x)
 | .pick c a b => (compOpd P o.type c).bind fun c => (compOpd P o.type a).bind fun a => (compOpd P o.type b).bind fun b => some (.pick c a b)
 | .alloc e => (tyZero P e).bind fun zv => (valT P e zv).bind fun u => some (.box (cellsT u).length (.c u))
 | .box e x => (tySize P e).bind fun n => (compOpd P e x).bind fun x => some (.box n x)
 | .build t ps => match P.underlying t with
  | some (.struct fs) => (tyZero P t).bind fun zv => (valT P t zv).bind fun u =>
   (optAll (ps.toList.map fun (i, x) => (fs[i]?).bind fun f => (tySize P f.type).bind fun n => (compOpd P f.type x).bind fun x => some (f.offset, n, x))).bind fun ps =>
   if isAg u && fs.toList.all (fun f => (tySize P f.type).isSome) then some (.build (cellsT u) ps) else none
  | _ => none
 | .buildSlice t len ps => (tyElem P t).bind fun e => (tySize P e).bind fun z => (tyZero P e).bind fun zv => (valT P e zv).bind fun u =>
   (optAll (ps.toList.map fun (i, x) => (compOpd P e x).bind fun x => some (i, x))).bind fun ps =>
   if len * z ≤ 2 ^ 24 && z != 0 && (cellsT u).length == z && ps.all (fun x => decide (x.1 < len)) then some (.bslice z len (cellsT u) ps) else none
 | .load t a => (tyAgg P t).bind fun g => (tySize P t).bind fun n => (compOpd P o.type a).bind fun a => if g || n == 1 then some (.load g n a) else none
 | .store t a x => (tySize P t).bind fun n => (compOpd P t a).bind fun a => (compOpd P t x).bind fun x => some (.store n a x)
 | .nilCheck x => (compOpd P o.type x).bind fun x => some (.nilck x)
 | .binOp op t x y u =>
  match P.underlying t with
  | some (.int _) | some .string | some (.float .f64) => (compOpd P t x).bind fun x => (compOpd P u y).bind fun y => some (.bin op x y)
  | some .bool => (compOpd P t x).bind fun x => (compOpd P t y).bind fun y => match op with
   | .eql => some (.eqs false false [.b] x y)
   | .neq => some (.eqs true false [.b] x y)
   | _ => none
  | some (.struct _) => (flatEq P t).bind fun ks => (compOpd P t x).bind fun x => (compOpd P t y).bind fun y => match op with
   | .eql => some (.eqs false true ks x y)
   | .neq => some (.eqs true true ks x y)
   | _ => none
  | some (.pointer _) => (compOpd P t x).bind fun x => (compOpd P t y).bind fun y => match op with
   | .eql => some (.eqp false x y)
   | .neq => some (.eqp true x y)
   | _ => none
  | _ => none
 | .unOp op t x => (compOpd P t x).bind fun x => some (.un op x)
 | .convert s d x => (P.underlying s).bind fun us => match P.underlying d with
  | some (.int k) => (compOpd P s x).bind fun x => some (.toInt k x)
  | some (.float .f64) => (compOpd P s x).bind fun x => some (.toF x)
  | some .string => match us with
   | .slice e => match P.underlying e with
    | some (.int .u8) => (compOpd P s x).bind fun x => some (.toS x)
    | _ => none
   | _ => none
  | _ => none
 | .makeFunc (.func g) first caps => if first.isEmpty then (optAll (caps.toList.map fun x => compOpd P o.type x)).bind fun cs => some (.mkfn g cs) else none
 | .makeSlice t l c => (tyElem P t).bind fun e => (tySize P e).bind fun z => (tyBytes P e).bind fun by_ => (tyZero P e).bind fun zv => (valT P e zv).bind fun u =>
   (compOpd P t l).bind fun l => (compOpd P t c).bind fun c => if z != 0 && by_ != 0 && (cellsT u).length == z then some (.mkslice z by_ (cellsT u) l c) else none
 | .slice t x lo hi none => (match P.underlying t with
   | some .string => some (true, 0)
   | some (.slice e) => (tySize P e).bind fun z => some (false, z)
   | _ => none).bind fun sz => (compOpd P t x).bind fun x =>
   (match lo with | none => some none | some y => (compOpd P t y).bind fun y => some (some y)).bind fun lo =>
   (match hi with | none => some none | some y => (compOpd P t y).bind fun y => some (some y)).bind fun hi => some (.slice sz.1 sz.2 x lo hi)
 | .fieldAddr s x f => match P.underlying s with
  | some (.struct fs) => (fs[f]?).bind fun f => (tySize P f.type).bind fun n => (compOpd P s x).bind fun x => if n != 0 then some (.faddr f.offset n x) else none
  | _ => none
 | .field s x f => match P.underlying s with
  | some (.struct fs) => (fs[f]?).bind fun f => (tySize P f.type).bind fun n => (tyAgg P f.type).bind fun g => (compOpd P s x).bind fun x => if g || n == 1 then some (.fld g f.offset n x) else none
  | _ => none
 | .indexAddr t x i => (tyElem P t).bind fun e => (tySize P e).bind fun z => (compOpd P t x).bind fun x => (compOpd P t i).bind fun i => some (.iaddr z x i)
 | .index t x i => match P.underlying t with
  | some .string => (compOpd P t x).bind fun x => (compOpd P t i).bind fun i => some (.ix x i)
  | _ => none
 | .extract x k => (compOpd P o.type x).bind fun x => some (.ext k x)
 | .call c =>
  match c.callee with
  | .builtin .len => match c.args.toList, c.argTypes[0]? with
   | [x], some t => match P.underlying t with
    | some .string => (compOpd P t x).bind fun x => some (.len true x)
    | some (.slice _) => (compOpd P t x).bind fun x => some (.len false x)
    | _ => none
   | _, _ => none
  | .builtin .append => match c.args.toList, c.argTypes.toList with
   | [s, x], [t, u] => (tyElem P t).bind fun e => (tySize P e).bind fun z => (tyBytes P e).bind fun by_ =>
    (compOpd P t s).bind fun s => (compOpd P u x).bind fun x =>
    if z != 0 && by_ != 0 && (tyElem P u).isSome && (tyZero P e).map (·.cells.size) == some z then some (.app z by_ s x) else none
   | _, _ => none
  | .builtin .max => match c.args.toList with
   | [x, y] => (compOpd P o.type x).bind fun x => (compOpd P o.type y).bind fun y => some (.maxi x y)
   | _ => none
  | .value f => (optAll ((c.args.toList.zip c.argTypes.toList).map fun (x, t) => (compOpd P t x).bind fun y => some (y, tyPtr P t))).bind fun as =>
   if c.args.size != c.argTypes.size then none else
   match f with
   | .func g => if callable P g then some (.call g as) else none
   | .tmp n => some (.callv (.t n) as)
   | _ => none
  | _ => none
 | _ => none
def isNever : Op → Bool
 | .makeInterface _ _ => true
 | .panic _ => true
 | .call c => match c.callee with
  | .builtin .panic => true
  | _ => false
 | _ => false
def neverOp : TOp := .callv (.c .junk) []
def compOp (o : Oper) : Option TOp := match compOp0 P o with
 | some t => some t
 | none => if isNever o.op then some neverOp else none
theorem compOp_eq {P : Program} {o : Oper} (h : isNever o.op = false) : compOp P o = compOp0 P o := by
 unfold compOp; rw [h]; cases compOp0 P o <;> rfl
def compGuard (ops : Array Oper) : Option (Nat × Bool) → Option (Option (Nat × Bool))
 | none => some none
 | some (j, want) => ((ops[j]?).bind (·.dst)).bind fun t => some (some (t, want))
def dstOk (N : Nat) : Option Nat → Bool
 | some d => decide (d < N)
 | none => true
def rootOf (rid k : Nat) : Option Nat → Nat
 | some d => d + 2
 | none => 1000000 + rid * 1000 + k
def compOps (N rid : Nat) (ops : Array Oper) : Nat → List Oper → Option (List TOper)
 | _, [] => some []
 | k, o :: os => (compOp P o).bind fun op => (compGuard ops o.guard).bind fun g =>
   if dstOk N o.dst = true then
    (compOps N rid ops (k + 1) os).bind fun r => some ({ dst := o.dst, root := rootOf rid k o.dst, op, guard := g, free := [] } :: r)
   else none
def predsOf (o : Oper) : List Nat := (o.after.toList.filter fun e => Region.binds .any e).map (·.on)
def ancGo : List (List Nat) → List Nat → List Nat
 | [], acc => acc
 | ps :: pss, acc => ancGo pss (acc ++ [ps.foldl (fun m p => m ||| 2 ^ p ||| (acc[p]?).getD 0) 0])
def guardTm : Option (Nat × Bool) → List Nat
 | none => []
 | some (t, _) => [t]
def lookT (o : TOper) : List Nat := guardTm o.guard ++ opTm o.op
def apartT (x y : TOper) : Bool :=
 (match x.dst with | some d => !(lookT y).contains d && y.dst != some d | none => true) &&
 (match y.dst with | some d => !(lookT x).contains d | none => true)
def lateOk (ops : Array Oper) (masks : List Nat) (n i : Nat) : Bool := match ops[i]? with
 | some o => (match o.op with | .store .. => true | _ => false) && o.guard.isNone && o.dst.isNone &&
   (List.range n).all fun j => decide (j ≤ i) || (((masks[j]?).getD 0).testBit i && (List.range i).all fun k => ((masks[i]?).getD 0).testBit k || ((masks[j]?).getD 0).testBit k)
 | none => false
def freeOf (ops : Array Oper) (masks : List Nat) (tl : List TOper) (i : Nat) (o : TOper) : List Nat :=
 let fr := (List.range i).filter fun j => !((masks[i]?).getD 0).testBit j && ((match tl[j]? with | some x => canWr x.op | none => false) || canWr o.op)
 if !fr.isEmpty && lateOk ops masks tl.length i then 1000000 :: fr else fr
def drawOk (ops : Array Oper) (masks : List Nat) (l : List TOper) : Bool :=
 (List.range l.length).all fun i => match ops[i]?, l[i]? with
  | some o, some y => (predsOf o).all (fun p => decide (p < i)) &&
   (List.range l.length).all (fun j => !((masks[i]?).getD 0).testBit j || (predsOf o).any fun p => p == j || ((masks[p]?).getD 0).testBit j) &&
   (List.range i).all (fun j => match l[j]? with
    | some x => ((masks[i]?).getD 0).testBit j || (apartT x y && ((unmark y.free).contains j || (!canWr x.op && !canWr y.op)))
    | none => false) &&
   (!marked y.free || lateOk ops masks l.length i)
  | _, _ => false
def compDraw (N rid : Nat) (ops : Array Oper) : Option (List TOper) := (compOps P N rid ops 0 ops.toList).bind fun tl =>
 let masks := ancGo (ops.toList.map predsOf) []
 let l := tl.mapIdx fun i o => { o with free := freeOf ops masks tl i o }
 if P.follows .mixedOrders = true ∧ drawOk ops masks l = true then some l else none
def compCode (N : Nat) : Code → Option TCode
 | .skip => some .skip
 | .region id ops false => (compOps P N id ops 0 ops.toList).bind fun l => some (.ops l)
 | .region id ops true => (compDraw P N id ops).bind fun l => some (.draw l)
 | .seq a b => (compCode N a).bind fun a => (compCode N b).bind fun b => some (.seq a b)
 | .cond c a b => (compOpd P 0 c).bind fun c => (compCode N a).bind fun a => (compCode N b).bind fun b => some (.cond c a b)
 | .block id a => (compCode N a).bind fun a => some (.block id a)
 | .loop a => (compCode N a).bind fun a => some (.loop a)
 | .exit id => some (.exit id)
 | .ret => some .ret
 | _ => none
end
structure Fr where
 w0 : World
 S0 : Nat → Nat → Prop
 A : Nat → Nat → Prop
 N : Nat
 k1 : Nat → Value
def Rel (F : Fr) (st : St) (a : Act) (w : World) : Prop :=
 ∃ κ γ, HR F.w0 F.S0 F.A w κ γ st.H ∧ st.H 0 = [] ∧ a.tmps.size = F.N ∧ (∀ k, RV w κ st.H F.A (st.t k) ((a.tmps[k]?).getD undef)) ∧ a.defers = [] ∧ (∀ b, κ [(1, b)] = F.k1 b) ∧ ∀ q m, st.org q = some m → Live st.H q → κ q = F.k1 m
section
variable {P : Program} {F : Fr} {st : St} {a : Act} {w w' : World} {κ κ' : Path → Value} {γ γ' : Nat → Nat → Option Path} {H : Hp} {A : Nat → Nat → Prop}
theorem valC_rv {t : TypeId} {v : Value} {u : TV} (h : valC P t v = some u) : RV w κ H A u v ∧ (cellsT u).length = 1 ∧ isAg u = false := by
 unfold valC at h
 split at h
 ·cases h; exact ⟨.pure _ _ (.b _), rfl, rfl⟩
 ·cases h; exact ⟨.pure _ _ (.i _ _), rfl, rfl⟩
 ·cases h; exact ⟨.pure _ _ (.f _), rfl, rfl⟩
 ·cases h; exact ⟨.pure _ _ (.s _), rfl, rfl⟩
 ·cases h; exact ⟨.pure _ _ .np, rfl, rfl⟩
 ·simp only [Option.bind_eq_some_iff, Option.some.injEq] at h
  obtain ⟨e, _, z, _, rfl⟩ := h
  exact ⟨.nil z, rfl, rfl⟩
 ·cases h
theorem valCs_rv : ∀ {ts : List TypeId} {vs : List Value} {us : List TV}, valCs P ts vs = some us → us.length = vs.length ∧ ∀ (j : Nat) (u : TV), us[j]? = some u → RV w κ H A u ((vs[j]?).getD undef)
 | [], [], us, h => by simp only [valCs, Option.some.injEq] at h; subst h; simp
 | t :: ts, v :: vs, us, h => by
  simp only [valCs, Option.bind_eq_some_iff, Option.some.injEq] at h
  obtain ⟨u, h1, us', h2, rfl⟩ := h
  obtain ⟨h3, h4⟩ := valCs_rv h2
  refine ⟨by simp [h3], fun j u' hj => ?_⟩
  cases j with
  | zero => simp at hj; subst hj; exact (valC_rv h1).1
  | succ j => simpa using h4 j u' (by simpa using hj)
 | [], _ :: _, _, h => by cases h
 | _ :: _, [], _, h => by cases h
theorem valT_rv {t : TypeId} {v : Value} {u : TV} (h : valT P t v = some u) : RV w κ H A u v := by
 unfold valT at h
 split at h
 ·simp only [Option.bind_eq_some_iff, Option.some.injEq] at h
  obtain ⟨us, h1, rfl⟩ := h
  obtain ⟨h3, h4⟩ := valCs_rv (w := w) (κ := κ) (H := H) (A := A) h1
  exact .ag _ _ (by simpa using h3) (fun j u hj => by simpa using h4 j u hj)
 ·exact (valC_rv h).1
theorem opd_rv {t : TypeId} {x : Operand} {y : TOpd} (h : compOpd P t x = some y) (ht : ∀ k, RV w κ H A (st.t k) ((a.tmps[k]?).getD undef)) : RV w κ H A (y.ev st) (a.eval x) := by
 cases x with
 | tmp n =>
  simp only [compOpd, Option.some.injEq] at h; subst h
  simpa [TOpd.ev, Act.eval] using ht n
 | const v =>
  simp only [compOpd, Option.bind_eq_some_iff, Option.some.injEq] at h
  obtain ⟨u, h1, rfl⟩ := h
  exact valT_rv h1
 | func f =>
  simp only [compOpd, Option.some.injEq] at h; subst h
  exact .fn _ _ _ rfl (by simp)
 | global g => cases h
theorem put_get (a : Act) (d : Nat) (v : Value) (hd : d < a.tmps.size) (k : Nat) : ((a.put (some d) v).tmps[k]?).getD undef = if d = k then v else (a.tmps[k]?).getD undef := by
 simp only [Act.put]
 by_cases hk : d = k
 ·subst hk; simp [hd]
 ·rw [Array.getElem?_setIfInBounds_ne hk]; simp [hk]
theorem orgPut_some {E : Eff} {q : Path} {m : Nat} (h : orgPut st E q = some m) (hl : Live H q) : ∃ s r, q = s :: r ∧
  ((E.nr = some s.1 ∧ s.2 = 0 ∧ ∃ f, r = [(0, f)] ∧ E.norg[f]? = some (some m)) ∨ (E.nr ≠ some s.1 ∧ deadB E.dead q = false ∧ st.org q = some m)) := by
 cases q with
 | nil => obtain ⟨x, hx, _⟩ := hl; cases hx
 | cons s r =>
  refine ⟨s, r, rfl, ?_⟩
  by_cases hn : E.nr = some s.1
  ·simp only [orgPut, hn, if_true] at h
   split at h
   ·rename_i t
    by_cases hst : s.2 = 0 ∧ t.1 = 0
    ·rw [if_pos hst] at h
     refine .inl ⟨hn, hst.1, t.2, by rw [← hst.2], ?_⟩
     cases hx : E.norg[t.2]? with
     | none => simp [hx] at h
     | some y => simp [hx] at h; rw [h]
    ·rw [if_neg hst] at h; cases h
   ·cases h
  ·simp only [orgPut, hn, if_false] at h
   by_cases hd : deadB E.dead (s :: r) = true
   ·rw [if_pos hd] at h; cases h
   ·rw [if_neg hd] at h
    exact .inr ⟨hn, by simpa using hd, h⟩
theorem Rel.put {dst : Option Nat} {E : Eff} {x : Value} (hh : HR F.w0 F.S0 F.A w' κ' γ' E.H) (h0 : E.H 0 = []) (hs : a.tmps.size = F.N) (hd : ∀ d, dst = some d → d < F.N) (hdef : a.defers = []) (h6 : ∀ b, κ' [(1, b)] = F.k1 b)
  (h7 : ∀ q m, orgPut st E q = some m → Live E.H q → κ' q = F.k1 m) (hv : dst ≠ none → RV w' κ' E.H F.A E.v x)
  (ht : ∀ k, RV w' κ' E.H F.A (deadT E.dead (st.t k)) ((a.tmps[k]?).getD undef)) :
  Rel F (st.put dst E) (a.put dst x) w' := by
 refine ⟨κ', γ', hh, h0, ?_, ?_, ?_, h6, h7⟩
 ·cases dst <;> simp [Act.put, hs]
 ·intro k
  cases dst with
  | none => simpa [St.put, Act.put] using ht k
  | some d =>
   rw [put_get _ _ _ (by rw [hs]; exact hd d rfl)]
   by_cases hk : d = k
   ·subst hk; simpa [St.put] using hv (by simp)
   ·simp only [St.put, Option.some.injEq, hk, if_false]; exact ht k
 ·cases dst <;> exact hdef
theorem Rel.val {dst : Option Nat} {v : TV} {x : Value} (hh : HR F.w0 F.S0 F.A w κ γ st.H) (h0 : st.H 0 = []) (hs : a.tmps.size = F.N) (hd : ∀ d, dst = some d → d < F.N) (hdef : a.defers = []) (h6 : ∀ b, κ [(1, b)] = F.k1 b) (h7 : ∀ q m, st.org q = some m → Live st.H q → κ q = F.k1 m)
  (ht : ∀ k, RV w κ st.H F.A (st.t k) ((a.tmps[k]?).getD undef)) (hv : RV w κ st.H F.A v x) : Rel F (st.put dst (Go.Proofs.YtmedelmfkciblaaT.val st v)) (a.put dst x) w :=
 Rel.put hh h0 hs hd hdef h6 (fun q m hq hl => h7 q m (by cases q with | nil => exact hq | cons s r => simpa [orgPut, Go.Proofs.YtmedelmfkciblaaT.val, deadB] using hq) hl) (fun _ => hv) (fun k => ht k)
end
section
variable {P : Program} (w : World)
theorem run_info {t : TypeId} {i : TypeInfo} (h : P.info? t = some i) : (typeInfo t).run P w = .ok i w := by simp [typeInfo, h]
theorem run_size {t : TypeId} {n : Nat} (h : tySize P t = some n) : (sizeOf t).run P w = .ok n w := by
 simp only [tySize, Option.map_eq_some_iff] at h
 obtain ⟨i, h1, rfl⟩ := h
 simp [sizeOf, run_info w h1]
theorem run_zero {t : TypeId} {v : Value} (h : tyZero P t = some v) : (zeroValue t).run P w = .ok v w := by
 simp only [tyZero, Option.bind_eq_some_iff] at h
 obtain ⟨i, h1, h2⟩ := h
 simp [zeroValue, run_info w h1, h2]
theorem run_agg {t : TypeId} {b : Bool} (h : tyAgg P t = some b) : (isAgg t).run P w = .ok b w := by
 simp only [tyAgg, Option.map_eq_some_iff] at h
 obtain ⟨d, h1, rfl⟩ := h
 unfold isAgg
 rw [Sem.run_bind, run_underlying h1]
 cases d <;> rfl
end
end Go.Proofs.YtmedelmfkciblaaT


namespace Go.Proofs.YtmedelmfkciblaaT
set_option linter.unusedVariables false
set_option linter.unusedSimpArgs false
open Go
section
def isN (x : Nat) : Prop := ∃ s t, Ieee.double.read x = .nan s t
theorem order_none (x : Nat) : FloatKind.f64.format.order x x = none ↔ isN x := by
 simp only [FloatKind.format, Ieee.Format.order, isN]
 cases Ieee.double.read x <;> simp [Ieee.Datum.order]
theorem canon_nan {x : Nat} (h : isN x) : canon x = nanC := by simp [canon, (order_none x).2 h, nanC]
theorem canon_not {x : Nat} (h : ¬ isN x) : canon x = x := by
 have : ¬ FloatKind.f64.format.order x x = none := fun hh => h ((order_none x).1 hh)
 simp [canon, this]
theorem isN_of_rung {x : Nat} (h : 0x7ff0000000000000 < x % 2 ^ 63) : isN x := by
 have e1 : Ieee.double.signWeight = 2 ^ 63 := rfl
 have e2 : Ieee.double.binade = 2 ^ 52 := rfl
 have e3 : Ieee.double.infRung = 0x7ff0000000000000 := rfl
 refine ⟨x / 2 ^ 63 % 2 == 1, x % 2 ^ 63 - 0x7ff0000000000000, ?_⟩
 simp only [Ieee.Format.read, e1, e2, e3]
 rw [if_neg (by omega), if_neg (by omega), if_neg (by omega)]
theorem isN_nanC : isN nanC := isN_of_rung (by decide)
theorem op_canon {α : Type} (f : Ieee.Datum → Ieee.Datum → Option α) (h1 : ∀ s t y, f (.nan s t) y = none) (h2 : ∀ s t y, f y (.nan s t) = none) (x y : Nat) :
  f (Ieee.double.read (canon x)) (Ieee.double.read (canon y)) = f (Ieee.double.read x) (Ieee.double.read y) := by
 obtain ⟨s0, t0, hn⟩ := isN_nanC
 by_cases hx : isN x
 ·rw [canon_nan hx, hn, h1]
  obtain ⟨s, t, hx⟩ := hx
  rw [hx, h1]
 ·rw [canon_not hx]
  by_cases hy : isN y
  ·rw [canon_nan hy, hn, h2]
   obtain ⟨s, t, hy⟩ := hy
   rw [hy, h2]
  ·rw [canon_not hy]
theorem order_canon (x y : Nat) : FloatKind.f64.format.order (canon x) (canon y) = FloatKind.f64.format.order x y :=
 op_canon Ieee.Datum.order (fun _ _ _ => rfl) (fun _ _ y => by cases y <;> rfl) x y
theorem add_canon (x y : Nat) : FloatKind.f64.format.add (canon x) (canon y) = FloatKind.f64.format.add x y :=
 congrArg (Option.map _) (op_canon Ieee.Datum.sum (fun _ _ _ => rfl) (fun _ _ y => by cases y <;> rfl) x y)
theorem sub_canon (x y : Nat) : FloatKind.f64.format.sub (canon x) (canon y) = FloatKind.f64.format.sub x y :=
 congrArg (Option.map _) (op_canon (fun a b => a.sum b.opposite) (fun _ _ _ => rfl) (fun _ _ y => by cases y <;> rfl) x y)
theorem mul_canon (x y : Nat) : FloatKind.f64.format.mul (canon x) (canon y) = FloatKind.f64.format.mul x y :=
 congrArg (Option.map _) (op_canon Ieee.Datum.product (fun _ _ _ => rfl) (fun _ _ y => by cases y <;> rfl) x y)
theorem div_canon (x y : Nat) : FloatKind.f64.format.div (canon x) (canon y) = FloatKind.f64.format.div x y :=
 congrArg (Option.map _) (op_canon (Ieee.Datum.quotient _) (fun _ _ _ => rfl) (fun _ _ y => by cases y <;> rfl) x y)
theorem rung_of_isN {x : Nat} (h : isN x) : 0x7ff0000000000000 < x % 2 ^ 63 := by
 have e1 : Ieee.double.signWeight = 2 ^ 63 := rfl
 have e2 : Ieee.double.binade = 2 ^ 52 := rfl
 have e3 : Ieee.double.infRung = 0x7ff0000000000000 := rfl
 obtain ⟨s, t, h⟩ := h
 simp only [Ieee.Format.read, e1, e2, e3] at h
 split at h
 ·cases h
 ·split at h
  ·cases h
  ·split at h
   ·cases h
   ·omega
theorem nan_cut (x y t : Nat) : canon ((Question.nanBits .f64 x y).cut t) = nanC := by
 refine canon_nan (isN_of_rung ?_)
 simp only [Question.cut]
 have : t / 2 % (2 ^ 52 - 1) < 2 ^ 52 - 1 := Nat.mod_lt _ (by decide)
 generalize t / 2 % (2 ^ 52 - 1) = m at *
 rcases Nat.mod_two_eq_zero_or_one t with h | h <;> rw [h] <;> omega
theorem neg_nan {x : Nat} (h : isN x) : isN (Op.negFloat .f64 x) := by
 refine isN_of_rung ?_
 have := rung_of_isN h
 have e : Op.negFloat .f64 x = x ^^^ 2 ^ 63 := rfl
 rw [e, Nat.xor_mod_two_pow, Nat.mod_self, Nat.xor_zero]
 exact this
theorem neg_canon (x : Nat) : canon (Op.negFloat .f64 (canon x)) = canon (Op.negFloat .f64 x) := by
 by_cases h : isN x
 ·rw [canon_nan h, canon_nan (neg_nan isN_nanC), canon_nan (neg_nan h)]
 ·rw [canon_not h]
end
section
variable {P : Program} {F : Fr} {st : St} {w w' : World} {κ κ' : Path → Value} {γ γ' : Nat → Nat → Option Path} {H : Hp} {A : Nat → Nat → Prop}
theorem rv_i {k : IntKind} {n : Int} {v : Value} (h : RV w κ H A (.i k n) v) : v = .int k n := by cases h with | pure u v h => cases h; rfl
theorem rv_b {x : Bool} {v : Value} (h : RV w κ H A (.b x) v) : v = .bool x := by cases h with | pure u v h => cases h; rfl
theorem rv_s {x : ByteArray} {v : Value} (h : RV w κ H A (.s x) v) : v = .string x := by cases h with | pure u v h => cases h; rfl
theorem rv_f {x : Nat} {v : Value} (h : RV w κ H A (.f x) v) : ∃ y, v = .float .f64 y ∧ canon y = x := by cases h with | pure u v h => cases h; exact ⟨_, rfl, rfl⟩
theorem rv_np {v : Value} (h : RV w κ H A .np v) : v = .pointer none := by cases h with | pure u v h => cases h; rfl
theorem rv_ag {cs : List TV} {v : Value} (h : RV w κ H A (.ag cs) v) : ∃ vs : Array Value, v = .agg vs ∧ cs.length = vs.size ∧ ∀ (j : Nat) (u : TV), cs[j]? = some u → RV w κ H A u ((vs[j]?).getD undef) := by
 cases h with
 | pure u v h => cases h
 | ag cs vs hl hc => exact ⟨vs, rfl, hl, hc⟩
theorem rv_tu {cs : List TV} {v : Value} (h : RV w κ H A (.tu cs) v) : ∃ vs : Array Value, v = .tuple vs ∧ cs.length = vs.size ∧ ∀ (j : Nat) (u : TV), cs[j]? = some u → RV w κ H A u ((vs[j]?).getD undef) := by
 cases h with
 | pure u v h => cases h
 | tu cs vs hl hc => exact ⟨vs, rfl, hl, hc⟩
theorem rv_pt {p : Path} {i f : Nat} {v : Value} (h : RV w κ H A (.pt p i f) v) : ∃ a, v = .pointer (some a) := by
 cases h with
 | pure u v h => cases h
 | ptS => exact ⟨_, rfl⟩
 | ptP => exact ⟨_, rfl⟩
theorem rv_po {cs : List TV} {v : Value} (h : RV w κ H A (.po false cs) v) : ∃ a, v = .pointer (some a) := by
 cases h with
 | pure u v h => cases h; exact ⟨_, rfl⟩
structure Same (w w' : World) : Prop where
 heap : w'.heap = w.heap
 os : w'.os = w.os
 tape : w'.tape = w.tape
 output : w'.output = w.output
theorem Same.refl (w : World) : Same w w := ⟨rfl, rfl, rfl, rfl⟩
theorem Same.keep (h : Same w w') (K : Nat → Nat → Prop) : Keep K w w' :=
 ⟨by rw [h.heap]; exact Nat.le_refl _, fun b arr T fz hb => ⟨arr, by rw [h.heap]; exact hb, rfl, fun _ _ => rfl⟩, fun b o hb _ => by rw [h.heap]; exact hb⟩
theorem HR.same {w0 : World} {S0 : Nat → Nat → Prop} (h : HR w0 S0 A w κ γ H) (hs : Same w w') : HR w0 S0 A w' κ γ H := by
 refine ⟨fun s u hu => ?_, fun b o q hb => ?_, h.old, ?_⟩
 ·exact (h.root s u hu).ren (K := fun _ _ => True) _ (fun r nd _ _ => ⟨rfl, fun _ _ hb => ⟨hb, trivial⟩⟩) (hs.keep _) (fun _ _ _ => trivial) (fun _ _ h => h)
 ·rw [hs.heap]; exact h.own b o q hb
 ·exact h.chg.trans (S' := fun _ _ => False) ⟨hs.os, hs.tape, hs.output, hs.keep _⟩ (fun _ _ h => h.elim)
theorem RV.same {u : TV} {v : Value} (h : RV w κ H A u v) (hs : Same w w') : RV w' κ H A u v :=
 h.mono (K := fun _ _ => True) (fun _ _ => ⟨rfl, rfl⟩) (hs.keep _) (fun _ _ _ => trivial)
def Good (P : Program) (F : Fr) (o : Oper) (st : St) (E : Eff) : Prop :=
 ∀ a w K Q, Rel F st a w → (∀ a' w', Rel F (st.put o.dst E) a' w' → K a' w') → o.wp P a w K Q
theorem good_val {o : Oper} {v : TV} (hd : ∀ d, o.dst = some d → d < F.N)
  (h : ∀ (a : Act) w κ γ, HR F.w0 F.S0 F.A w κ γ st.H → (∀ k, RV w κ st.H F.A (st.t k) ((a.tmps[k]?).getD undef)) →
   ∃ x w', (execOp a.eval o).run P w = .ok (.value x) w' ∧ Same w w' ∧ RV w κ st.H F.A v x) : Good P F o st (val st v) := by
 intro a w K Q hR hK
 obtain ⟨κ, γ, h1, h2, h3, h4, h5, h6, h7⟩ := hR
 obtain ⟨x, w', hr, hs, hx⟩ := h a w κ γ h1 h4
 unfold Oper.wp
 rw [hr, Oper.upon_value]
 exact hK _ _ (Rel.val (h1.same hs) h2 h3 hd h5 h6 h7 (fun k => (h4 k).same hs) (hx.same hs))
theorem good_val' {o : Oper} {E : Eff} (hd : ∀ d, o.dst = some d → d < F.N)
  (h : ∀ (a : Act) w κ γ, HR F.w0 F.S0 F.A w κ γ st.H → (∀ k, RV w κ st.H F.A (st.t k) ((a.tmps[k]?).getD undef)) →
   ∃ v x w', val st v = E ∧ (execOp a.eval o).run P w = .ok (.value x) w' ∧ Same w w' ∧ RV w κ st.H F.A v x) : Good P F o st E := by
 intro a w K Q hR hK
 obtain ⟨κ, γ, h1, h2, h3, h4, h5, h6, h7⟩ := hR
 obtain ⟨v, x, w', rfl, hr, hs, hx⟩ := h a w κ γ h1 h4
 unfold Oper.wp
 rw [hr, Oper.upon_value]
 exact hK _ _ (Rel.val (h1.same hs) h2 h3 hd h5 h6 h7 (fun k => (h4 k).same hs) (hx.same hs))
theorem run_choose_same {q : Question} (hq : q.forced = false) : ∃ t w', (choose q).run P w = .ok (q.cut t) w' ∧ Same w w' :=
 ⟨w.tape w.drawn q, { w with drawn := w.drawn + 1 }, by rw [run_choose, hq]; rfl, ⟨rfl, rfl, rfl, rfl⟩⟩
theorem flt_run {op : BinOp} (hop : op = .add ∨ op = .sub ∨ op = .mul ∨ op = .quo) (x y : Nat) :
  ∃ r w', (Op.floatArith op .f64 x y).run P w = .ok (.float .f64 r) w' ∧ Same w w' ∧ canon r = fltArith op (canon x) (canon y) := by
 obtain ⟨t, w', h1, h2⟩ := run_choose_same (P := P) (w := w) (q := .nanBits .f64 x y) rfl
 have hn := nan_cut x y t
 rcases hop with rfl | rfl | rfl | rfl
 ·simp only [Op.floatArith, fltArith, add_canon, Sem.run_bind, Sem.run_pure, Result.andThen_ok]
  cases FloatKind.f64.format.add x y with
  | some r => exact ⟨r, w, rfl, .refl w, rfl⟩
  | none => exact ⟨_, w', by simp only [Sem.run_bind, h1, Result.andThen_ok, Sem.run_pure], h2, hn⟩
 ·simp only [Op.floatArith, fltArith, sub_canon, Sem.run_bind, Sem.run_pure, Result.andThen_ok]
  cases FloatKind.f64.format.sub x y with
  | some r => exact ⟨r, w, rfl, .refl w, rfl⟩
  | none => exact ⟨_, w', by simp only [Sem.run_bind, h1, Result.andThen_ok, Sem.run_pure], h2, hn⟩
 ·simp only [Op.floatArith, fltArith, mul_canon, Sem.run_bind, Sem.run_pure, Result.andThen_ok]
  cases FloatKind.f64.format.mul x y with
  | some r => exact ⟨r, w, rfl, .refl w, rfl⟩
  | none => exact ⟨_, w', by simp only [Sem.run_bind, h1, Result.andThen_ok, Sem.run_pure], h2, hn⟩
 ·simp only [Op.floatArith, fltArith, div_canon, Sem.run_bind, Sem.run_pure, Result.andThen_ok]
  cases FloatKind.f64.format.div x y with
  | some r => exact ⟨r, w, rfl, .refl w, rfl⟩
  | none => exact ⟨_, w', by simp only [Sem.run_bind, h1, Result.andThen_ok, Sem.run_pure], h2, hn⟩
theorem bin_run {op : BinOp} {t : TypeId} {ux uy : TV} {x y : Value} {Kv : TV → Prop} (h : binT op ux uy Kv) (hx : RV w κ H A ux x) (hy : RV w κ H A uy y) :
  ∃ v, Kv v ∧ ∃ r w', (binOp op t x y).run P w = .ok r w' ∧ Same w w' ∧ RV w κ H A v r := by
 have triv : ∀ {v : TV} {r : Value}, Kv v → (binOp op t x y).run P w = .ok r w → RR w A v r → ∃ v, Kv v ∧ ∃ r w', (binOp op t x y).run P w = .ok r w' ∧ Same w w' ∧ RV w κ H A v r :=
  fun hk hr hv => ⟨_, hk, _, _, hr, .refl w, .pure _ _ hv⟩
 unfold binT at h
 split at h
 ·rename_i k a k' b
  obtain rfl := rv_i hx
  obtain rfl := rv_i hy
  cases op <;> simp only at h
  case shl => exact triv h.2 (by simp [binOp, Op.shift, show ¬ b < 0 by omega]) (.i _ _)
  case shr => exact triv h.2 (by simp [binOp, Op.shift, show ¬ b < 0 by omega]) (.i _ _)
  case add => obtain ⟨rfl, h⟩ := h; exact triv h (by simp [binOp, Op.intArith]) (.i _ _)
  case sub => obtain ⟨rfl, h⟩ := h; exact triv h (by simp [binOp, Op.intArith]) (.i _ _)
  case mul => obtain ⟨rfl, h⟩ := h; exact triv h (by simp [binOp, Op.intArith]) (.i _ _)
  case quo => obtain ⟨rfl, h0, h⟩ := h; exact triv h (by simp [binOp, Op.intDiv, h0]) (.i _ _)
  case rem => obtain ⟨rfl, h0, h⟩ := h; exact triv h (by simp [binOp, Op.intDiv, h0]) (.i _ _)
  case and => obtain ⟨rfl, h⟩ := h; exact triv h (by simp [binOp, Op.intBits]) (.i _ _)
  case or => obtain ⟨rfl, h⟩ := h; exact triv h (by simp [binOp, Op.intBits]) (.i _ _)
  case xor => obtain ⟨rfl, h⟩ := h; exact triv h (by simp [binOp, Op.intBits]) (.i _ _)
  case andNot => obtain ⟨rfl, h⟩ := h; exact triv h (by simp [binOp, Op.intBits]) (.i _ _)
  all_goals (obtain ⟨rfl, h⟩ := h; exact triv h (by simp [binOp, Op.intCmp]) (.b _))
 ·rename_i a b
  obtain rfl := rv_s hx
  obtain rfl := rv_s hy
  cases op <;> simp only at h
  case add =>
   refine triv h.2 ?_ (.s _)
   simp only [binOp, Op.stringOp]
   have : ¬ ((a.size + b.size : Nat) : Int) > IntKind.i64.max := by
    have e : IntKind.i64.max = 2 ^ 63 - 1 := rfl
    omega
   simp only [this, if_false, Sem.run_pure]
  case eql => exact triv h (by simp [binOp, Op.stringOp]) (.b _)
  case neq => exact triv h (by simp [binOp, Op.stringOp]) (.b _)
  case lss => exact triv h (by simp [binOp, Op.stringOp]) (.b _)
  all_goals exact h.elim
 ·rename_i a b
  obtain ⟨x1, rfl, rfl⟩ := rv_f hx
  obtain ⟨y1, rfl, rfl⟩ := rv_f hy
  have ar : ∀ {op}, (op = .add ∨ op = .sub ∨ op = .mul ∨ op = .quo) → (binOp op t (.float .f64 x1) (.float .f64 y1)).run P w = (Op.floatArith op .f64 x1 y1).run P w → Kv (.f (fltArith op (canon x1) (canon y1))) →
    ∃ v, Kv v ∧ ∃ r w', (binOp op t (.float .f64 x1) (.float .f64 y1)).run P w = .ok r w' ∧ Same w w' ∧ RV w κ H A v r := by
   intro op hop he hk
   obtain ⟨r, w', h1, h2, h3⟩ := flt_run (P := P) (w := w) hop x1 y1
   exact ⟨_, hk, _, w', by rw [he]; exact h1, h2, .pure _ _ (by rw [← h3]; exact .f r)⟩
  cases op <;> simp only [order_canon] at h
  case add => exact ar (by simp) (by simp [binOp]) h
  case sub => exact ar (by simp) (by simp [binOp]) h
  case mul => exact ar (by simp) (by simp [binOp]) h
  case quo => exact ar (by simp) (by simp [binOp]) h
  case eql => exact triv h (by simp [binOp, Op.floatCmp]) (.b _)
  case neq => exact triv h (by simp [binOp, Op.floatCmp]) (.b _)
  case lss => exact triv h (by simp [binOp, Op.floatCmp]) (.b _)
  case leq => exact triv h (by simp [binOp, Op.floatCmp]) (.b _)
  case gtr => exact triv h (by simp [binOp, Op.floatCmp]) (.b _)
  case geq => exact triv h (by simp [binOp, Op.floatCmp]) (.b _)
  all_goals exact h.elim
 ·exact h.elim
end
end Go.Proofs.YtmedelmfkciblaaT


namespace Go.Proofs.YtmedelmfkciblaaT
set_option linter.unusedVariables false
set_option linter.unusedSimpArgs false
open Go
section
variable {P : Program} {F : Fr} {st : St} {w w' : World} {κ κ' : Path → Value} {γ γ' : Nat → Nat → Option Path} {H : Hp} {A : Nat → Nat → Prop} {o : Oper} {E : Eff} {root : Nat}
theorem good_mv {x : Operand} {y : TOpd} (hop : o.op = .move x ∨ o.op = .assign x) (hx : compOpd P o.type x = some y) (hd : ∀ d, o.dst = some d → d < F.N)
  (hE : opW P st root (.mv y) (· = E)) : Good P F o st E := by
 simp only [opW] at hE; subst hE
 refine good_val hd fun a w κ γ hh ht => ⟨a.eval x, w, ?_, .refl w, opd_rv hx ht⟩
 rcases hop with h | h <;> simp [execOp, h]
theorem good_pick {c x y : Operand} {c' x' y' : TOpd} {tc tx ty : TypeId} (hop : o.op = .pick c x y) (hc : compOpd P tc c = some c') (hx : compOpd P tx x = some x') (hy : compOpd P ty y = some y')
  (hd : ∀ d, o.dst = some d → d < F.N) (hE : opW P st root (.pick c' x' y') (· = E)) : Good P F o st E := by
 simp only [opW] at hE
 split at hE
 case h_2 => exact hE.elim
 rename_i b hb
 subst hE
 refine good_val hd fun a w κ γ hh ht => ?_
 have hcv := opd_rv hc ht; rw [hb] at hcv
 have := rv_b hcv
 refine ⟨if b then a.eval x else a.eval y, w, ?_, .refl w, ?_⟩
 ·simp [execOp, hop, this, asBool]
 ·cases b
  ·exact opd_rv hy ht
  ·exact opd_rv hx ht
theorem good_nilck {x : Operand} {x' : TOpd} {t : TypeId} (hop : o.op = .nilCheck x) (hx : compOpd P t x = some x')
  (hd : ∀ d, o.dst = some d → d < F.N) (hE : opW P st root (.nilck x') (· = E)) : Good P F o st E := by
 simp only [opW] at hE
 split at hE
 ·rename_i p i f hb
  subst hE
  refine good_val hd fun a w κ γ hh ht => ?_
  have hv := opd_rv hx ht; rw [hb] at hv
  obtain ⟨ad, h1⟩ := rv_pt hv
  exact ⟨_, w, by simp [execOp, hop, h1], .refl w, h1 ▸ hv⟩
 ·rename_i cs hb
  subst hE
  refine good_val hd fun a w κ γ hh ht => ?_
  have hv := opd_rv hx ht; rw [hb] at hv
  obtain ⟨ad, h1⟩ := rv_po hv
  exact ⟨_, w, by simp [execOp, hop, h1], .refl w, h1 ▸ hv⟩
 ·rename_i g cs hb
  subst hE
  refine good_val hd fun a w κ γ hh ht => ?_
  have hv := opd_rv hx ht; rw [hb] at hv
  obtain ⟨cv, h1⟩ : ∃ cv, a.eval x = .func (.func g) #[] cv := by
   generalize a.eval x = v at hv
   cases hv with
   | pure u v h => cases h; exact ⟨_, rfl⟩
   | fn => exact ⟨_, rfl⟩
  exact ⟨_, w, by simp [execOp, hop, h1], .refl w, h1 ▸ hv⟩
 ·exact hE.elim
theorem guard_quiet {op : BinOp} {t : TypeId} {x y : Operand} {a b : Value} (h : (∃ k n, a = .int k n) ∨ (∃ s, a = .string s) ∨ (∃ k n, a = .float k n) ∨ (∃ s, a = .bool s) ∨ (∃ s, a = .pointer s)) :
  (eqGuard op t x y a b).run P w = .ok () w := by
 rcases h with ⟨k, n, rfl⟩ | ⟨s, rfl⟩ | ⟨k, n, rfl⟩ | ⟨s, rfl⟩ | ⟨s, rfl⟩ <;> (unfold eqGuard; cases op <;> simp)
theorem good_bin {op : BinOp} {x y : Operand} {x' y' : TOpd} {t u tx ty : TypeId} (hop : o.op = .binOp op t x y u) (hx : compOpd P tx x = some x') (hy : compOpd P ty y = some y')
  (hd : ∀ d, o.dst = some d → d < F.N) (hE : opW P st root (.bin op x' y') (· = E)) : Good P F o st E := by
 simp only [opW] at hE
 refine good_val' hd fun a w κ γ hh ht => ?_
 obtain ⟨v', hv', r, w', h1, h2, h3⟩ := bin_run (P := P) (t := t) hE (opd_rv hx ht) (opd_rv hy ht)
 refine ⟨v', r, w', hv', ?_, h2, h3⟩
 have hq : (eqGuard op t x y (a.eval x) (a.eval y)).run P w = .ok () w := by
  refine guard_quiet ?_
  have hxv := opd_rv (P := P) hx ht
  unfold binT at hE
  split at hE
  ·rename_i hh' _; rw [hh'] at hxv; exact .inl ⟨_, _, rv_i hxv⟩
  ·rename_i hh' _; rw [hh'] at hxv; exact .inr (.inl ⟨_, rv_s hxv⟩)
  ·rename_i hh' _; rw [hh'] at hxv; obtain ⟨q, h, _⟩ := rv_f hxv; exact .inr (.inr (.inl ⟨_, _, h⟩))
  ·exact hE.elim
 simp only [execOp, hop, Sem.run_bind, hq, Result.andThen_ok, h1, Sem.run_pure]
theorem good_un {op : UnOp} {x : Operand} {x' : TOpd} {t tx : TypeId} (hop : o.op = .unOp op t x) (hx : compOpd P tx x = some x')
  (hd : ∀ d, o.dst = some d → d < F.N) (hE : opW P st root (.un op x') (· = E)) : Good P F o st E := by
 simp only [opW] at hE
 split at hE
 ·rename_i b hb
  subst hE
  refine good_val hd fun a w κ γ hh ht => ?_
  have hv := opd_rv hx ht; rw [hb] at hv
  have h1 := rv_b hv
  exact ⟨.bool (!b), w, by simp [execOp, hop, h1, Op.unary], .refl w, .pure _ _ (.b _)⟩
 ·rename_i k n hb
  subst hE
  refine good_val hd fun a w κ γ hh ht => ?_
  have hv := opd_rv hx ht; rw [hb] at hv
  have h1 := rv_i hv
  exact ⟨.int k (k.wrap (0 - n)), w, by simp [execOp, hop, h1, Op.unary, Op.intArith], .refl w, .pure _ _ (.i _ _)⟩
 ·rename_i n hb
  subst hE
  refine good_val hd fun a w κ γ hh ht => ?_
  have hv := opd_rv hx ht; rw [hb] at hv
  obtain ⟨y, h1, rfl⟩ := rv_f hv
  exact ⟨.float .f64 (Op.negFloat .f64 y), w, by simp [execOp, hop, h1, Op.unary], .refl w, .pure _ _ (by rw [neg_canon]; exact .f _)⟩
 ·exact hE.elim
theorem good_ext {k : Nat} {x : Operand} {x' : TOpd} {tx : TypeId} (hop : o.op = .extract x k) (hx : compOpd P tx x = some x')
  (hd : ∀ d, o.dst = some d → d < F.N) (hE : opW P st root (.ext k x') (· = E)) : Good P F o st E := by
 simp only [opW] at hE
 split at hE
 case h_2 => exact hE.elim
 rename_i vs hb
 split at hE
 case h_2 => exact hE.elim
 rename_i v hv'
 subst hE
 refine good_val hd fun a w κ γ hh ht => ?_
 have hv := opd_rv hx ht; rw [hb] at hv
 obtain ⟨cv, h1, h2, h3⟩ := rv_tu hv
 have hlt : k < cv.size := by have := (List.getElem?_eq_some_iff.1 hv').1; omega
 refine ⟨cv[k], w, by simp [execOp, hop, h1, Instr.extract, hlt], .refl w, ?_⟩
 simpa [hlt] using h3 k v hv'
theorem good_len {str : Bool} {x : Operand} {x' : TOpd} {t tx : TypeId} {c : Call} (hop : o.op = .call c) (hc : c.callee = .builtin .len) (ha : c.args.toList = [x]) (htt : c.argTypes[0]? = some t)
  (hu : if str then P.underlying t = some .string else ∃ e, P.underlying t = some (.slice e)) (hx : compOpd P tx x = some x')
  (hd : ∀ d, o.dst = some d → d < F.N) (hE : opW P st root (.len str x') (· = E)) : Good P F o st E := by
 simp only [opW] at hE
 split at hE
 case h_2 => exact hE.elim
 rename_i n hn
 subst hE
 refine good_val hd fun a w κ γ hh ht => ?_
 have hv := opd_rv hx ht
 have hargs : c.args = #[x] := by rw [← Array.toArray_toList (xs := c.args), ha]
 refine ⟨.int .i64 n, w, ?_, .refl w, .pure _ _ (.i _ _)⟩
 cases str with
 | true =>
  have key : ∃ s, a.eval x = .string s ∧ n = s.size := by
   revert hv
   generalize x'.ev st = u at hn
   generalize a.eval x = v
   intro hv
   cases hv with
   | pure u v h => cases h <;> simp_all [lenT]
   | _ => simp_all [lenT]
  obtain ⟨s, h1, h2⟩ := key
  simp only [if_true] at hu
  simp [execOp, hop, resolve, hc, hargs, invoke, builtin, Builtin.len_, htt, h1, run_underlying hu, goInt, h2]
 | false =>
  have key : ∃ ad c, a.eval x = .slice ad n c := by
   revert hv
   generalize x'.ev st = u at hn
   generalize a.eval x = v
   intro hv
   cases hv with
   | pure u v h => cases h <;> simp_all [lenT]
   | nil z => simp_all [lenT]
   | rf0 => simp_all [lenT]
   | rf => simp_all [lenT]
   | _ => simp_all [lenT]
  obtain ⟨ad, c', h1⟩ := key
  simp only [Bool.false_eq_true, if_false] at hu
  obtain ⟨e, hu⟩ := hu
  simp [execOp, hop, resolve, hc, hargs, invoke, builtin, Builtin.len_, htt, h1, run_underlying hu, goInt]
theorem good_toInt {k : IntKind} {x : Operand} {x' : TOpd} {s d tx : TypeId} (hop : o.op = .convert s d x) (hk : P.underlying d = some (.int k)) (hs : (P.underlying s).isSome = true) (hx : compOpd P tx x = some x')
  (hd : ∀ d, o.dst = some d → d < F.N) (hE : opW P st root (.toInt k x') (· = E)) : Good P F o st E := by
 obtain ⟨ds, hs⟩ := Option.isSome_iff_exists.1 hs
 simp only [opW] at hE
 split at hE
 ·rename_i k1 n hb
  subst hE
  refine good_val hd fun a w κ γ hh ht => ?_
  have hv := opd_rv hx ht; rw [hb] at hv
  have h1 := rv_i hv
  exact ⟨.int k (k.wrap n), w, by simp [execOp, hop, h1, convert, run_underlying hk, run_underlying hs, Conv.intToInt], .refl w, .pure _ _ (.i _ _)⟩
 ·rename_i b hb
  split at hE
  case h_2 => exact hE.elim
  rename_i n hn
  obtain ⟨h2, h3, rfl⟩ := hE
  refine good_val hd fun a w κ γ hh ht => ?_
  have hv := opd_rv hx ht; rw [hb] at hv
  obtain ⟨y, h1, rfl⟩ := rv_f hv
  have hy : canon y = y := by
   by_cases hN : isN y
   ·rw [canon_nan hN] at hn
    obtain ⟨s0, t0, hn'⟩ := isN_nanC
    simp only [FloatKind.decode, FloatKind.format] at hn
    rw [hn'] at hn
    cases hn
   ·exact canon_not hN
  rw [hy] at hn
  exact ⟨.int k n, w, by simp [execOp, hop, h1, convert, run_underlying hk, run_underlying hs, Conv.floatToInt, hn, h2, h3], .refl w, .pure _ _ (.i _ _)⟩
 ·exact hE.elim
theorem good_toF {x : Operand} {x' : TOpd} {s d tx : TypeId} (hop : o.op = .convert s d x) (hk : P.underlying d = some (.float .f64)) (hs : (P.underlying s).isSome = true) (hx : compOpd P tx x = some x')
  (hd : ∀ d, o.dst = some d → d < F.N) (hE : opW P st root (.toF x') (· = E)) : Good P F o st E := by
 obtain ⟨ds, hs⟩ := Option.isSome_iff_exists.1 hs
 simp only [opW] at hE
 split at hE
 ·rename_i k1 n hb
  subst hE
  refine good_val hd fun a w κ γ hh ht => ?_
  have hv := opd_rv hx ht; rw [hb] at hv
  have h1 := rv_i hv
  exact ⟨.float .f64 (FloatKind.f64.nearest n), w, by simp [execOp, hop, h1, convert, run_underlying hk, run_underlying hs, Conv.intToFloat], .refl w, .pure _ _ (.f _)⟩
 ·rename_i b hb
  subst hE
  refine good_val hd fun a w κ γ hh ht => ?_
  have hv := opd_rv hx ht; rw [hb] at hv
  obtain ⟨y, h1, rfl⟩ := rv_f hv
  exact ⟨.float .f64 y, w, by simp [execOp, hop, h1, convert, run_underlying hk, run_underlying hs, Conv.floatToFloat], .refl w, .pure _ _ (.f _)⟩
 ·exact hE.elim
theorem good_ix {x y : Operand} {x' y' : TOpd} {t tx ty : TypeId} (hop : o.op = .index t x y) (hk : P.underlying t = some .string) (hx : compOpd P tx x = some x') (hy : compOpd P ty y = some y')
  (hd : ∀ d, o.dst = some d → d < F.N) (hE : opW P st root (.ix x' y') (· = E)) : Good P F o st E := by
 simp only [opW] at hE
 split at hE
 case h_2 => exact hE.elim
 rename_i s k n hb1 hb2
 split at hE
 case h_2 => exact hE.elim
 rename_i b hn
 subst hE
 refine good_val hd fun a w κ γ hh ht => ?_
 have hv := opd_rv hx ht; rw [hb1] at hv
 have h1 := rv_s hv
 have hv2 := opd_rv hy ht; rw [hb2] at hv2
 have h2 := rv_i hv2
 refine ⟨.int .u8 b.toNat, w, ?_, .refl w, .pure _ _ (.i _ _)⟩
 simp only [execOp, hop, h1, h2, Instr.index, asIntOf, Sem.run_bind, Sem.run_pure, Result.andThen_ok, run_underlying hk, hn]
theorem good_maxi {x y : Operand} {x' y' : TOpd} {tx ty : TypeId} {c : Call} (hop : o.op = .call c) (hc : c.callee = .builtin .max) (ha : c.args.toList = [x, y]) (hx : compOpd P tx x = some x') (hy : compOpd P ty y = some y')
  (hd : ∀ d, o.dst = some d → d < F.N) (hE : opW P st root (.maxi x' y') (· = E)) : Good P F o st E := by
 simp only [opW] at hE
 split at hE
 case h_2 => exact hE.elim
 rename_i k p k' q hb1 hb2
 subst hE
 refine good_val hd fun a w κ γ hh ht => ?_
 have hv := opd_rv hx ht; rw [hb1] at hv
 have h1 := rv_i hv
 have hv2 := opd_rv hy ht; rw [hb2] at hv2
 have h2 := rv_i hv2
 have hargs : c.args = #[x, y] := by rw [← Array.toArray_toList (xs := c.args), ha]
 refine ⟨.int k (if q > p then q else p), w, ?_, .refl w, .pure _ _ (.i _ _)⟩
 simp [execOp, hop, resolve, hc, hargs, invoke, builtin, Builtin.max_, Builtin.max2, h1, h2]
theorem good_mkfn {g : FuncId} {first caps : Array Operand} {cs : List TOpd} (hop : o.op = .makeFunc (.func g) first caps) (hf : first.isEmpty = true)
  (hcs : cs.length = caps.size) (hx : ∀ (j : Nat) (x : TOpd), cs[j]? = some x → ∃ y t, caps[j]? = some y ∧ compOpd P t y = some x)
  (hd : ∀ d, o.dst = some d → d < F.N) (hE : opW P st root (.mkfn g cs) (· = E)) : Good P F o st E := by
 simp only [opW] at hE; subst hE
 refine good_val hd fun a w κ γ hh ht => ?_
 have hf' : first = #[] := by simpa using hf
 refine ⟨.func (.func g) #[] (caps.map a.eval), w, by simp [execOp, hop, hf', Instr.makeFunc], .refl w, ?_⟩
 refine .fn _ _ _ (by simpa using hcs) fun j u hu => ?_
 rw [List.getElem?_map] at hu
 cases hj : cs[j]? with
 | none => simp [hj] at hu
 | some x =>
  simp only [hj, Option.map_some, Option.some.injEq] at hu
  subst hu
  obtain ⟨y, t, h1, h2⟩ := hx j x hj
  simpa [h1] using opd_rv h2 ht
theorem good_eqp {neg : Bool} {op : BinOp} {x y : Operand} {x' y' : TOpd} {t u e tx ty : TypeId} (hop : o.op = .binOp op t x y u) (ho : op = if neg then .neq else .eql) (hk : P.underlying t = some (.pointer e)) (hx : compOpd P tx x = some x') (hy : compOpd P ty y = some y')
  (hd : ∀ d, o.dst = some d → d < F.N) (hE : opW P st root (.eqp neg x' y') (· = E)) : Good P F o st E := by
 simp only [opW] at hE
 refine good_val' hd fun a w κ γ hh ht => ?_
 have hxv := opd_rv hx ht
 have hyv := opd_rv hy ht
 have key : ∃ (p q : Option Addr) (b : Bool), a.eval x = .pointer p ∧ a.eval y = .pointer q ∧ (p = none ∨ q = none) ∧ (b = (p.isNone && q.isNone)) ∧ val st (.b (b ^^ neg)) = E := by
  split at hE
  ·rename_i h1 h2
   rw [h1] at hxv; rw [h2] at hyv
   exact ⟨none, none, true, rv_np hxv, rv_np hyv, .inl rfl, rfl, by rw [← hE]; simp⟩
  ·rename_i h1 h2
   rw [h1] at hxv; rw [h2] at hyv
   obtain ⟨ad, h3⟩ := rv_pt hyv
   exact ⟨none, some ad, false, rv_np hxv, h3, .inl rfl, rfl, by rw [← hE]; simp⟩
  ·rename_i h1 h2
   rw [h1] at hxv; rw [h2] at hyv
   obtain ⟨ad, h3⟩ := rv_po hyv
   exact ⟨none, some ad, false, rv_np hxv, h3, .inl rfl, rfl, by rw [← hE]; simp⟩
  ·rename_i h1 h2
   rw [h1] at hxv; rw [h2] at hyv
   obtain ⟨ad, h3⟩ := rv_pt hxv
   exact ⟨some ad, none, false, h3, rv_np hyv, .inr rfl, rfl, by rw [← hE]; simp⟩
  ·rename_i h1 h2
   rw [h1] at hxv; rw [h2] at hyv
   obtain ⟨ad, h3⟩ := rv_po hxv
   exact ⟨some ad, none, false, h3, rv_np hyv, .inr rfl, rfl, by rw [← hE]; simp⟩
  ·exact hE.elim
 obtain ⟨p, q, b, h1, h2, h3, h4, h5⟩ := key
 have heq : (Op.equal t (.pointer p) (.pointer q)).run P w = .ok b w := by
  have gen : ∀ n, (Op.equalIn (n + 1) t (.pointer p) (.pointer q)).run P w = .ok b w := by
   intro n
   simp only [Op.equalIn, Sem.run_bind, run_underlying hk, Result.andThen_ok]
   subst h4
   rcases h3 with rfl | rfl
   ·cases q <;> simp
   ·cases p <;> simp
  exact gen 9999
 refine ⟨_, .bool (b ^^ neg), w, h5, ?_, .refl w, .pure _ _ (.b _)⟩
 have hq := guard_quiet (P := P) (w := w) (op := op) (t := t) (x := x) (y := y) (a := a.eval x) (b := a.eval y) (.inr (.inr (.inr (.inr ⟨p, h1⟩))))
 rw [h1, h2] at hq
 cases neg
 ·simp only [Bool.false_eq_true, if_false] at ho; subst ho
  simp [execOp, hop, h1, h2, hq, binOp, heq]
 ·simp only [if_true] at ho; subst ho
  simp [execOp, hop, h1, h2, hq, binOp, heq]
end
end Go.Proofs.YtmedelmfkciblaaT


namespace Go.Proofs.YtmedelmfkciblaaT
set_option linter.unusedVariables false
set_option linter.unusedSimpArgs false
open Go
section
variable {P : Program} {F : Fr} {st : St} {w w' w0 : World} {S0 : Nat → Nat → Prop} {κ κ' : Path → Value} {γ γ' : Nat → Nat → Option Path} {H : Hp} {A : Nat → Nat → Prop} {o : Oper} {E : Eff} {root : Nat}
theorem cell_of {B k : Nat} {arr : Array Value} {T : TypeId} {fz : Nat × Nat} (hb : w.heap[B]? = some (.cells arr T fz)) : w.cell? ⟨B, k, none⟩ = arr[k]? := by
 simp [World.cell?, hb]
theorem run_loadAt {t : TypeId} {g : Bool} {n B off : Nat} {arr : Array Value} {T : TypeId} {fz : Nat × Nat} (hg : tyAgg P t = some g) (hn : tySize P t = some n)
  (hb : w.heap[B]? = some (.cells arr T fz)) (hs : off + n ≤ arr.size) (h1 : g = false → n = 1) :
  (Instr.loadAt t (.pointer (some ⟨B, off, none⟩))).run P w = .ok (if g then .agg (arr.extract off (off + n)) else (arr[off]?).getD undef) w := by
 cases g with
 | true =>
  simp only [tyAgg, Option.map_eq_some_iff] at hg
  obtain ⟨d, h2, h3⟩ := hg
  have hr : d.isRow = true := by cases d <;> simp_all [TypeDesc.isRow]
  have := run_loadAt_mid (P := P) w B off t (arr.extract off (off + n)).toList d (World.rangeAt_of_block hb off n) h2 hr (by
   simp only [tySize] at hn
   rw [hn]; simp; omega)
  rw [Array.toArray_toList] at this
  simpa only [if_true] using this
 | false =>
  have := h1 rfl; subst this
  have hlt : off < arr.size := by omega
  simp [Instr.loadAt, Instr.sureAddr, loadVar, run_agg w hg, cell_of hb, hlt]
theorem node_ne {p : Path} {i : Nat} {cs : List TV} (h : rowAt H p i = some cs) : p ≠ [] := by
 rintro rfl; simp [rowAt, cellAt] at h
theorem row_kid {p : Path} {i f : Nat} {cs : List TV} {u : TV} (h : rowAt H p i = some cs) (hu : cs[f]? = some u) : ∃ nd, cellAt H p = some nd ∧ kid nd (i, f) = some u := by
 simp only [rowAt, Option.bind_eq_some_iff] at h
 obtain ⟨es, ⟨nd, h1, h2⟩, h3⟩ := h
 refine ⟨nd, h1, ?_⟩
 unfold rows at h2
 split at h2
 ·cases h2; simp [kid, h3, hu]
 ·cases h2
  cases i with
  | zero => simp at h3; subst h3; simp [kid, hu]
  | succ i => simp at h3
 ·cases h2
theorem row_cell {p : Path} {i f : Nat} {cs : List TV} {u : TV} (h : rowAt H p i = some cs) (hu : cs[f]? = some u) : cellAt H (p ++ [(i, f)]) = some u := by
 obtain ⟨nd, h1, h2⟩ := row_kid h hu
 rw [cellAt_snoc _ _ (node_ne h), h1]; exact h2
theorem toRef_rv {q : Path} {u : TV} {v : Value} (h : TR w κ γ A q u v) (hc : cellAt H q = some u) : RV w κ H A (toRef q u) v := by
 cases h with
 | pure p u v h =>
  cases h with
  | fn g caps capv hl hcc =>
   simp only [toRef]
   split
   ·exact .pure _ _ (.fn g caps capv hl hcc)
   ·exact .pure _ _ (.junk _)
  | b => exact .pure _ _ (.b _)
  | i => exact .pure _ _ (.i _ _)
  | f => exact .pure _ _ (.f _)
  | s => exact .pure _ _ (.s _)
  | np => exact .pure _ _ .np
  | sl0 => exact .pure _ _ (.sl0 _)
  | sle z c a => exact .pure _ _ (.sle z c a)
  | junk => exact .pure _ _ (.junk _)
  | pin v h => exact .pure _ _ (.pin v h)
  | sl z n c B o es arr T fz hl hn hz hb hs hA hcc => exact .pure _ _ (.sl z n c B o es arr T fz hl hn hz hb hs hA hcc)
  | po B o cs arr T fz hb hs hA hcc => exact .pure _ _ (.po B o cs arr T fz hb hs hA hcc)
 | sl0 p z hk => exact .rf0 _ z 0 hk (by simp [shapeAt, hc, shape])
 | sl p z n c B o es arr T hk hl hn hz hb hs hg hcc =>
  have := RV.rf (w := w) (H := H) (A := A) q z n c B o 0 n hk (by simp [shapeAt, hc, shape, hl]) (by omega) hn
  simpa [toRef, hl] using this
 | po p B o cs arr T hk hb hs hg hcc =>
  have := RV.ptP (w := w) (H := H) (A := A) q B o 0 cs.length hk (by simp [shapeAt, hc, shape]) (by omega)
  simpa [toRef] using this
theorem pt_read (hh : HR w0 S0 A w κ γ H) {p : Path} {i f n : Nat} {v : Value} {cs : List TV} (hv : RV w κ H A (.pt p i f) v) (hr : rowAt H p i = some cs) (hn : f + n ≤ cs.length) :
  ∃ B off arr T, v = .pointer (some ⟨B, off, none⟩) ∧ w.heap[B]? = some (.cells arr T (0, 0)) ∧ off + n ≤ arr.size ∧
   (∀ (j : Nat) (u : TV), j < n → cs[f + j]? = some u → TR w κ γ A (p ++ [(i, f + j)]) u ((arr[off + j]?).getD undef)) ∧
   ∀ (nd : TV), cellAt H p = some nd → ∀ j, cellAddr (κ p) nd (i, f + j) = some (B, off + j) := by
 simp only [rowAt, Option.bind_eq_some_iff] at hr
 obtain ⟨es, ⟨nd, h1, h2⟩, h3⟩ := hr
 obtain ⟨v0, hT⟩ := hh.at h1
 cases hv with
 | pure u v h => cases h
 | ptS p z m c B o i f hk hc hi hf =>
  cases hT with
  | pure p u v h => simp [shapeAt, h1, h.noshape] at hc
  | sl0 p z' hk' => rw [hk] at hk'; cases hk'
  | po p B' o' cs' arr T hk' => rw [hk] at hk'; cases hk'
  | sl p z' n' c' B' o' es' arr T hk' hl hnn hz hb hs hg hcc =>
   rw [hk] at hk'; cases hk'
   simp only [rows, Option.some.injEq] at h2; subst h2
   simp only [shapeAt, h1, shape, Option.bind_some, Option.some.injEq, Prod.mk.injEq, true_and] at hc
   obtain ⟨rfl, _⟩ := hc
   have hz' := hz cs (List.mem_of_getElem? h3)
   have hb2 : i * z' + f + n ≤ c * z' := by
    have h4 : (i + 1) * z' ≤ c * z' := Nat.mul_le_mul_right z' (by omega)
    rw [Nat.add_mul] at h4; omega
   refine ⟨B, o + i * z' + f, arr, T, rfl, hb, by omega, fun j u hj hu => ?_, fun nd hnd j => ?_⟩
   ·have := hcc i (f + j) cs u h3 hu
    rwa [show o + i * z' + f + j = o + i * z' + (f + j) by omega]
   ·rw [h1] at hnd; cases hnd
    simp only [cellAddr, hk]
    rw [show o + i * z' + f + j = o + i * z' + (f + j) by omega]
 | ptP p B o f m hk hc hf =>
  cases hT with
  | pure p u v h => simp [shapeAt, h1, h.noshape] at hc
  | sl0 p z' hk' => rw [hk] at hk'; cases hk'
  | sl p z' n' c' B' o' es' arr T hk' => rw [hk] at hk'; cases hk'
  | po p B' o' cs' arr T hk' hb hs hg hcc =>
   rw [hk] at hk'; cases hk'
   simp only [rows, Option.some.injEq] at h2; subst h2
   simp only [List.getElem?_cons_zero, Option.some.injEq] at h3; subst h3
   refine ⟨B, o + f, arr, T, rfl, hb, by omega, fun j u hj hu => ?_, fun nd hnd j => ?_⟩
   ·have := hcc (f + j) u hu
    rwa [show o + f + j = o + (f + j) by omega]
   ·rw [h1] at hnd; cases hnd
    simp only [cellAddr, hk]
    rw [show o + f + j = o + (f + j) by omega]
theorem po_read {cs : List TV} {v : Value} (hv : RV w κ H A (.po false cs) v) :
  ∃ B off arr T fz, v = .pointer (some ⟨B, off, none⟩) ∧ w.heap[B]? = some (.cells arr T fz) ∧ off + cs.length ≤ arr.size ∧ (∀ k, k < cs.length → A B (off + k)) ∧
   ∀ (j : Nat) (u : TV), cs[j]? = some u → RR w A u ((arr[off + j]?).getD undef) := by
 cases hv with
 | pure u v h =>
  cases h with
  | po B o cs arr T fz hb hs hA hc => exact ⟨B, o, arr, T, fz, rfl, hb, hs, hA, hc⟩
theorem refsFrom_get (p : Path) (i : Nat) : ∀ (cs : List TV) (f j : Nat), (refsFrom p i f cs)[j]? = (cs[j]?).map (toRef (p ++ [(i, f + j)]))
 | [], f, j => rfl
 | u :: us, f, 0 => rfl
 | u :: us, f, j + 1 => by
  simp only [refsFrom, List.getElem?_cons_succ]
  rw [refsFrom_get p i us (f + 1) j]
  congr 3; simp; omega
theorem refsFrom_len (p : Path) (i : Nat) : ∀ (cs : List TV) (f : Nat), (refsFrom p i f cs).length = cs.length
 | [], _ => rfl
 | _ :: us, f => by simp [refsFrom, refsFrom_len p i us (f + 1)]
theorem good_load {x : Operand} {x' : TOpd} {t tx : TypeId} {g : Bool} {n : Nat} (hop : o.op = .load t x) (hg : tyAgg P t = some g) (hn : tySize P t = some n) (hx : compOpd P tx x = some x')
  (hd : ∀ d, o.dst = some d → d < F.N) (hE : opW P st root (.load g n x') (· = E)) : Good P F o st E := by
 simp only [opW] at hE
 split at hE
 ·rename_i p i f hb
  split at hE
  case h_2 => exact hE.elim
  rename_i cs hr
  obtain ⟨hlen, hE⟩ := hE
  refine good_val' hd fun a w κ γ hh ht => ?_
  have hv := opd_rv hx ht; rw [hb] at hv
  obtain ⟨B, off, arr, T, h1, h2, h3, h4, _⟩ := pt_read hh hv hr hlen
  have cell : ∀ (j : Nat) (u : TV), j < n → cs[f + j]? = some u → RV w κ st.H F.A (toRef (p ++ [(i, f + j)]) u) ((arr[off + j]?).getD undef) := fun j u hj hu => toRef_rv (h4 j u hj hu) (row_cell hr hu)
  cases g with
  | true =>
   simp only [if_true] at hE
   refine ⟨_, .agg (arr.extract off (off + n)), w, hE, ?_, .refl w, ?_⟩
   ·have := run_loadAt (P := P) (w := w) hg hn h2 h3 (by simp)
    simp only [if_true] at this
    simp [execOp, hop, h1, this]
   ·refine .ag _ _ (by rw [refsFrom_len]; simp; omega) fun j u hu => ?_
    rw [refsFrom_get] at hu
    cases hj : ((cs.drop f).take n)[j]? with
    | none => simp [hj] at hu
    | some c =>
     simp only [hj, Option.map_some, Option.some.injEq] at hu
     subst hu
     rw [List.getElem?_take] at hj
     split at hj
     case isFalse => cases hj
     rename_i hjn
     rw [List.getElem?_drop] at hj
     have := cell j c hjn hj
     have e : (arr.extract off (off + n))[j]? = arr[off + j]? := by
      rw [Array.getElem?_extract]; simp; omega
     rwa [e]
  | false =>
   simp only [Bool.false_eq_true, if_false] at hE
   obtain ⟨rfl, hE⟩ := hE
   obtain ⟨c, hc⟩ : ∃ c, cs[f]? = some c := ⟨cs[f], List.getElem?_eq_getElem (by omega)⟩
   have e1 : (cs.drop f).take 1 = [c] := by
    rw [List.take_one, List.head?_drop, hc]; rfl
   rw [e1] at hE
   simp only [refsFrom, List.headD_cons] at hE
   refine ⟨_, (arr[off]?).getD undef, w, hE, ?_, .refl w, by simpa using cell 0 c (by omega) (by simpa using hc)⟩
   have := run_loadAt (P := P) (w := w) hg hn h2 h3 (by simp)
   simp only [Bool.false_eq_true, if_false] at this
   simp [execOp, hop, h1, this]
 ·rename_i cs hb
  obtain ⟨hlen, hE⟩ := hE
  refine good_val' hd fun a w κ γ hh ht => ?_
  have hv := opd_rv hx ht; rw [hb] at hv
  obtain ⟨B, off, arr, T, fz, h1, h2, h3, hA, h4⟩ := po_read hv
  cases g with
  | true =>
   simp only [if_true] at hE
   refine ⟨_, .agg (arr.extract off (off + n)), w, hE, ?_, .refl w, ?_⟩
   ·have := run_loadAt (P := P) (w := w) hg hn h2 (by omega : off + n ≤ arr.size) (by simp)
    simp only [if_true] at this
    simp [execOp, hop, h1, this]
   ·refine .ag _ _ (by simp; omega) fun j u hu => ?_
    rw [List.getElem?_take] at hu
    split at hu
    case isFalse => cases hu
    rename_i hjn
    have e : (arr.extract off (off + n))[j]? = arr[off + j]? := by
     rw [Array.getElem?_extract]; simp; omega
    rw [e]
    exact .pure _ _ (h4 j u hu)
  | false =>
   simp only [Bool.false_eq_true, if_false] at hE
   obtain ⟨rfl, hE⟩ := hE
   cases cs with
   | nil => simp at hlen
   | cons c cs =>
    refine ⟨_, (arr[off]?).getD undef, w, hE, ?_, .refl w, .pure _ _ (by simpa using h4 0 c rfl)⟩
    have := run_loadAt (P := P) (w := w) hg hn h2 (by simp at h3; omega : off + 1 ≤ arr.size) (by simp)
    simp only [Bool.false_eq_true, if_false] at this
    simp [execOp, hop, h1, this]
 ·exact hE.elim
theorem add_mid (B off k : Nat) : (⟨B, off, none⟩ : Addr).add k = ⟨B, off + k, none⟩ := Addr.add_mid B off k
theorem row_len (hh : HR w0 S0 A w κ γ H) {p : Path} {i m z : Nat} {b : Bool} {cs : List TV} (hr : rowAt H p i = some cs) (hc : shapeAt H p = some (b, z, m)) : cs.length = if b then z else m := by
 simp only [rowAt, Option.bind_eq_some_iff] at hr
 obtain ⟨es, ⟨nd, h1, h2⟩, h3⟩ := hr
 obtain ⟨v0, hT⟩ := hh.at h1
 simp only [shapeAt, h1, Option.bind_some] at hc
 cases hT with
 | pure p u v h => rw [h.noshape] at hc; cases hc
 | sl0 p z' hk' => simp only [rows, Option.some.injEq] at h2; subst h2; simp at h3
 | sl p z' n' c' B' o' es' arr T hk' hl hnn hz hb hs hg hcc =>
  simp only [rows, Option.some.injEq] at h2; subst h2
  simp only [shape, Option.some.injEq, Prod.mk.injEq] at hc
  obtain ⟨rfl, rfl, _⟩ := hc
  simpa using hz cs (List.mem_of_getElem? h3)
 | po p B' o' cs' arr T hk' hb hs hg hcc =>
  simp only [rows, Option.some.injEq] at h2; subst h2
  cases i with
  | succ i => simp at h3
  | zero =>
   simp only [List.getElem?_cons_zero, Option.some.injEq] at h3; subst h3
   simp only [shape, Option.some.injEq, Prod.mk.injEq] at hc
   obtain ⟨rfl, _, rfl⟩ := hc
   rfl
theorem good_faddr {x : Operand} {x' : TOpd} {t tx : TypeId} {fs : Array Field} {k n : Nat} {fd : Field} (hop : o.op = .fieldAddr t x k) (hu : P.underlying t = some (.struct fs)) (hf : fs[k]? = some fd)
  (hn : tySize P fd.type = some n) (hn0 : n ≠ 0) (hx : compOpd P tx x = some x')
  (hd : ∀ d, o.dst = some d → d < F.N) (hE : opW P st root (.faddr fd.offset n x') (· = E)) : Good P F o st E := by
 simp only [opW] at hE
 have run : ∀ (a : Act) (w : World) B off, a.eval x = .pointer (some ⟨B, off, none⟩) → (execOp a.eval o).run P w = .ok (.value (.pointer (some ⟨B, off + fd.offset, none⟩))) w := by
  intro a w B off h
  simp [execOp, hop, h, Instr.fieldAt, run_underlying hu, hf, Instr.sureAddr, fieldPlace, run_size w hn, hn0, add_mid]
 split at hE
 ·rename_i p i f hb
  split at hE
  case h_2 => exact hE.elim
  rename_i cs hr
  obtain ⟨hlen, rfl⟩ := hE
  refine good_val hd fun a w κ γ hh ht => ?_
  have hv := opd_rv hx ht; rw [hb] at hv
  generalize he : a.eval x = v at hv
  cases hv with
  | pure u v h => cases h
  | ptS p z m c B o' i f hk hc hi hf' =>
   refine ⟨_, w, run a w _ _ he, .refl w, ?_⟩
   have : f + fd.offset ≤ z := by
    have := row_len hh hr hc
    simp at this; omega
   have h2 := RV.ptS (w := w) (A := F.A) p z m c B o' i (f + fd.offset) hk hc hi this
   rwa [show o' + i * z + (f + fd.offset) = o' + i * z + f + fd.offset by omega] at h2
  | ptP p B o' f m hk hc hf' =>
   refine ⟨_, w, run a w _ _ he, .refl w, ?_⟩
   have : f + fd.offset ≤ m := by
    have := row_len hh hr hc
    simp at this; omega
   have h2 := RV.ptP (w := w) (A := F.A) p B o' (f + fd.offset) m hk hc this
   rwa [show o' + (f + fd.offset) = o' + f + fd.offset by omega] at h2
 ·rename_i cs hb
  obtain ⟨hlen, rfl⟩ := hE
  refine good_val hd fun a w κ γ hh ht => ?_
  have hv := opd_rv hx ht; rw [hb] at hv
  obtain ⟨B, off, arr, T, fz, h1, h2, h3, hA, h4⟩ := po_read hv
  refine ⟨_, w, run a w _ _ h1, .refl w, .pure _ _ ?_⟩
  refine .po B (off + fd.offset) _ arr T fz h2 (by simp; omega) (fun j hj => ?_) fun j u hj => ?_
  ·rw [Nat.add_assoc]; exact hA _ (by simp at hj; omega)
  ·rw [List.getElem?_take] at hj
   split at hj
   case isFalse => cases hj
   rw [List.getElem?_drop] at hj
   have := h4 _ u hj
   rwa [← Nat.add_assoc] at this
 ·exact hE.elim
theorem good_fld {x : Operand} {x' : TOpd} {t tx : TypeId} {fs : Array Field} {k n : Nat} {g : Bool} {fd : Field} (hop : o.op = .field t x k) (hu : P.underlying t = some (.struct fs)) (hf : fs[k]? = some fd)
  (hn : tySize P fd.type = some n) (hg : tyAgg P fd.type = some g) (hx : compOpd P tx x = some x')
  (hd : ∀ d, o.dst = some d → d < F.N) (hE : opW P st root (.fld g fd.offset n x') (· = E)) : Good P F o st E := by
 simp only [opW] at hE
 split at hE
 case h_2 => exact hE.elim
 rename_i cs hb
 obtain ⟨hlen, hE⟩ := hE
 refine good_val' hd fun a w κ γ hh ht => ?_
 have hv := opd_rv hx ht; rw [hb] at hv
 obtain ⟨vs, h1, h2, h3⟩ := rv_ag hv
 cases g with
 | true =>
  simp only [if_true] at hE
  refine ⟨_, .agg (vs.extract fd.offset (fd.offset + n)), w, hE, ?_, .refl w, ?_⟩
  ·simp [execOp, hop, h1, Instr.field, run_underlying hu, hf, part, asAgg, run_agg w hg, run_size w hn]
  ·refine .ag _ _ (by simp; omega) fun j u hu => ?_
   rw [List.getElem?_take] at hu
   split at hu
   case isFalse => cases hu
   rw [List.getElem?_drop] at hu
   have e : (vs.extract fd.offset (fd.offset + n))[j]? = vs[fd.offset + j]? := by
    rw [Array.getElem?_extract]; simp; omega
   rw [e]; exact h3 _ u hu
 | false =>
  simp only [Bool.false_eq_true, if_false] at hE
  obtain ⟨rfl, hE⟩ := hE
  have hlt : fd.offset < vs.size := by omega
  obtain ⟨c, hc⟩ : ∃ c, cs[fd.offset]? = some c := ⟨cs[fd.offset], List.getElem?_eq_getElem (by omega)⟩
  have e1 : (cs.drop fd.offset).take 1 = [c] := by
   rw [List.take_one, List.head?_drop, hc]; rfl
  rw [e1] at hE
  simp only [List.headD_cons] at hE
  refine ⟨_, vs[fd.offset], w, hE, ?_, .refl w, by simpa [hlt] using h3 _ c hc⟩
  simp [execOp, hop, h1, Instr.field, run_underlying hu, hf, part, asAgg, run_agg w hg, hlt]
theorem good_iaddr {x y : Operand} {x' y' : TOpd} {t e tx ty : TypeId} {z : Nat} (hop : o.op = .indexAddr t x y) (hu : P.underlying t = some (.slice e)) (hz : tySize P e = some z)
  (hx : compOpd P tx x = some x') (hy : compOpd P ty y = some y')
  (hd : ∀ d, o.dst = some d → d < F.N) (hE : opW P st root (.iaddr z x' y') (· = E)) : Good P F o st E := by
 simp only [opW] at hE
 have run : ∀ (a : Act) (w : World) B off n c k (i : Int), a.eval x = .slice (some ⟨B, off, none⟩) n c → a.eval y = .int k i → 0 ≤ i → i < n →
   (execOp a.eval o).run P w = .ok (.value (.pointer (some ⟨B, off + i.toNat * z, none⟩))) w := by
  intro a w B off n c k i h1 h2 h3 h4
  simp [execOp, hop, h1, h2, Instr.indexAt, asIntOf, run_underlying hu, h3, h4, run_size w hz, add_mid]
 split at hE
 ·rename_i z' es k i hb1 hb2
  split at hE
  case h_2 => exact hE.elim
  rename_i e1 he
  obtain ⟨rfl, rfl⟩ := hE
  split at he
  case isFalse => cases he
  rename_i h0
  refine good_val hd fun a w κ γ hh ht => ?_
  have hv := opd_rv hx ht; rw [hb1] at hv
  have hv2 := opd_rv hy ht; rw [hb2] at hv2
  have hlt := (List.getElem?_eq_some_iff.1 he).1
  generalize hev : a.eval x = v at hv
  cases hv with
  | pure u v h =>
   cases h with
   | sl0 => simp at hlt
   | sle => simp at hlt
   | sl z' n c B off es arr T fz hl hn hzz hbk hs hA hc =>
    have hi : i.toNat < n := by omega
    have hzt : e1.length = z' := hzz e1 (List.mem_of_getElem? he)
    refine ⟨_, w, run a w B off n c k i hev (rv_i hv2) h0 (by omega), .refl w, .pure _ _ ?_⟩
    have hb : i.toNat * z' + z' ≤ n * z' := by
     have h4 : (i.toNat + 1) * z' ≤ n * z' := Nat.mul_le_mul_right z' hi
     rw [Nat.add_mul] at h4; omega
    refine .po B (off + i.toNat * z') e1 arr T fz hbk (by omega) (fun j hj => ?_) fun f u hf => hc _ f e1 u he hf
    rw [Nat.add_assoc]; exact hA _ (by omega)
 ·rename_i p off len k i hb1 hb2
  obtain ⟨h0, h1, h2, rfl⟩ := hE
  refine good_val hd fun a w κ γ hh ht => ?_
  have hv := opd_rv hx ht; rw [hb1] at hv
  have hv2 := opd_rv hy ht; rw [hb2] at hv2
  generalize hev : a.eval x = v at hv
  cases hv with
  | pure u v h => cases h
  | rf0 => omega
  | rfE => omega
  | rf p z' n c B o off len hk hc hb hn =>
   rw [hc] at h2
   simp only [Option.map_some, Option.some.injEq] at h2
   subst h2
   refine ⟨_, w, run a w B (o + off * z') len (c - off) k i hev (rv_i hv2) h0 (by omega), .refl w, ?_⟩
   have h3 := RV.ptS (w := w) (A := F.A) p z' n c B o (off + i.toNat) 0 hk hc (by omega) (by omega)
   rw [show o + off * z' + i.toNat * z' = o + (off + i.toNat) * z' + 0 by rw [Nat.add_mul]; omega]
   exact h3
 ·exact hE.elim
theorem run_bound {x : Value} {k : IntKind} {i : Int} (hx : x = .int k i) {y : Nat} {c : BoundsCode} (h0 : 0 ≤ i) (h1 : i ≤ y) : (Instr.sliceBound x y c).run P w = .ok i.toNat w := by
 subst hx; simp [Instr.sliceBound, asIntOf, h0, h1]
theorem optB_run {d : Int} {lo : Option Operand} {lo' : Option TOpd} {Kb : Int → Prop} {a : Act} {tx : TypeId} (h : optB st d lo' Kb) (ho : (lo = none ∧ lo' = none) ∨ ∃ x x', lo = some x ∧ lo' = some x' ∧ compOpd P tx x = some x')
  (ht : ∀ k, RV w κ st.H A (st.t k) ((a.tmps[k]?).getD undef)) : ∃ i, Kb i ∧ ((lo = none ∧ i = d) ∨ ∃ x k, lo = some x ∧ a.eval x = .int k i) := by
 rcases ho with ⟨rfl, rfl⟩ | ⟨x, x', rfl, rfl, hx⟩
 ·exact ⟨d, h, .inl ⟨rfl, rfl⟩⟩
 ·simp only [optB] at h
  split at h
  case h_2 => exact h.elim
  rename_i k n hb
  have hv := opd_rv (a := a) hx ht; rw [hb] at hv
  exact ⟨n, h, .inr ⟨x, k, rfl, rv_i hv⟩⟩
theorem run_bounds {isS : Bool} {len cap : Nat} {lo hi : Option Operand} {a : Act} {l h : Int} (hl : (lo = none ∧ l = 0) ∨ ∃ x k, lo = some x ∧ a.eval x = .int k l) (hh : (hi = none ∧ h = len) ∨ ∃ x k, hi = some x ∧ a.eval x = .int k h)
  (h0 : 0 ≤ l) (h1 : l ≤ h) (h2 : h ≤ cap) : (Instr.sliceBounds isS len cap (lo.map a.eval) (hi.map a.eval) none).run P w = .ok (l.toNat, h.toNat, cap) w := by
 have hy : h = ((h.toNat : Nat) : Int) := by omega
 have hlb : ∀ (x : Operand) (k : IntKind), a.eval x = .int k l → ∀ (y : Nat) (c : BoundsCode), h = y → (Instr.sliceBound (a.eval x) y c).run P w = .ok l.toNat w := fun x k hx y c hy => run_bound hx h0 (by omega)
 rcases hh with ⟨rfl, rfl⟩ | ⟨x, k, rfl, hx⟩ <;> rcases hl with ⟨rfl, rfl⟩ | ⟨x', k', rfl, hx'⟩
 ·simp [Instr.sliceBounds]
 ·simp only [Instr.sliceBounds, Option.map_none, Option.map_some, Sem.run_bind, Sem.run_pure, Result.andThen_ok, hlb x' k' hx' len _ rfl, Int.toNat_natCast]
 ·simp only [Instr.sliceBounds, Option.map_none, Option.map_some, Sem.run_bind, Sem.run_pure, Result.andThen_ok, run_bound hx (by omega) h2, Int.toNat_zero]
 ·simp only [Instr.sliceBounds, Option.map_some, Sem.run_bind, Sem.run_pure, Result.andThen_ok, run_bound hx (by omega) h2, hlb x' k' hx' h.toNat _ hy]
theorem good_slice {str : Bool} {x : Operand} {lo hi : Option Operand} {x' : TOpd} {lo' hi' : Option TOpd} {t tx tl th : TypeId} {z : Nat} (hop : o.op = .slice t x lo hi none)
  (hu : if str then P.underlying t = some .string else ∃ e, P.underlying t = some (.slice e) ∧ tySize P e = some z)
  (hx : compOpd P tx x = some x') (hlo : (lo = none ∧ lo' = none) ∨ ∃ x x', lo = some x ∧ lo' = some x' ∧ compOpd P tl x = some x') (hhi : (hi = none ∧ hi' = none) ∨ ∃ x x', hi = some x ∧ hi' = some x' ∧ compOpd P th x = some x')
  (hd : ∀ d, o.dst = some d → d < F.N) (hE : opW P st root (.slice str z x' lo' hi') (· = E)) : Good P F o st E := by
 cases str with
 | true =>
  simp only [opW] at hE
  split at hE
  case h_2 => exact hE.elim
  rename_i s hb
  refine good_val' hd fun a w κ γ hh ht => ?_
  have hv := opd_rv hx ht; rw [hb] at hv
  have h1 := rv_s hv
  obtain ⟨l, hE, hl⟩ := optB_run hE hlo ht
  obtain ⟨h, hE, hh'⟩ := optB_run hE hhi ht
  obtain ⟨g0, g1, g2, hE⟩ := hE
  refine ⟨_, .string (s.extract l.toNat h.toNat), w, hE, ?_, .refl w, .pure _ _ (.s _)⟩
  simp only [if_true] at hu
  simp [execOp, hop, h1, Instr.sliceAt, Instr.slice, run_underlying hu, run_bounds (P := P) (w := w) hl hh' g0 g1 g2]
 | false =>
  simp only [Bool.false_eq_true, if_false] at hu
  obtain ⟨e, hu, hz⟩ := hu
  have run : ∀ (a : Act) (w : World) ad n c (l h : Int), a.eval x = .slice ad n c → ((lo = none ∧ l = 0) ∨ ∃ x k, lo = some x ∧ a.eval x = .int k l) → ((hi = none ∧ h = n) ∨ ∃ x k, hi = some x ∧ a.eval x = .int k h) →
    0 ≤ l → l ≤ h → h ≤ c → (execOp a.eval o).run P w = .ok (.value (.slice (if c = l.toNat then ad else ad.map (·.add (l.toNat * z))) (h.toNat - l.toNat) (c - l.toNat))) w := by
   intro a w ad n c l h h1 hl hh' g0 g1 g2
   simp [execOp, hop, h1, Instr.sliceAt, Instr.slice, run_underlying hu, run_size w hz, run_bounds (P := P) (w := w) hl hh' g0 g1 g2]
  simp only [opW] at hE
  split at hE
  ·rename_i z' es hb
   obtain ⟨rfl, hE⟩ := hE
   refine good_val' hd fun a w κ γ hh ht => ?_
   have hv := opd_rv hx ht; rw [hb] at hv
   obtain ⟨l, hE, hl⟩ := optB_run hE hlo ht
   obtain ⟨h, hE, hh'⟩ := optB_run hE hhi ht
   obtain ⟨g0, g1, g2, hE⟩ := hE
   generalize hev : a.eval x = v at hv
   cases hv with
   | pure u v hr =>
    cases hr with
    | sl0 z =>
     simp only [List.length_nil] at g2 hh'
     have e1 : l = 0 := by omega
     have e2 : h = 0 := by omega
     subst e1; subst e2
     refine ⟨_, _, w, hE, run a w none 0 0 0 0 hev hl hh' g0 g1 (by simp), .refl w, .pure _ _ ?_⟩
     simpa using RR.sl0 _
    | sle z c a' =>
     simp only [List.length_nil] at g2 hh'
     have e1 : l = 0 := by omega
     have e2 : h = 0 := by omega
     subst e1; subst e2
     refine ⟨_, _, w, hE, run a w (some a') 0 c 0 0 hev hl hh' g0 g1 (by simp), .refl w, .pure _ _ ?_⟩
     by_cases hc0 : c = 0 <;> simp [hc0] <;> exact RR.sle _ _ _
    | sl z' n c B off es arr T fz hlen hn hzz hbk hs hA hc =>
     refine ⟨_, _, w, hE, run a w _ n c l h hev hl (by rw [hlen] at hh'; exact hh') g0 g1 (by omega), .refl w, .pure _ _ ?_⟩
     obtain ⟨ln, rfl⟩ : ∃ ln : Nat, l = ln := ⟨l.toNat, by omega⟩
     obtain ⟨hn', rfl⟩ : ∃ hn' : Nat, h = hn' := ⟨h.toNat, by omega⟩
     simp only [Int.toNat_natCast]
     by_cases hcl : c = ln
     ·subst hcl
      simp only [if_true]
      have e0 : hn' - c = 0 := by omega
      rw [e0, Nat.sub_self, List.take_zero]
      exact .sl _ 0 0 B off [] arr T fz rfl (by omega) (by simp) hbk (by omega) (by simp) (by simp)
     ·simp only [hcl, if_false, Option.map_some, add_mid]
      have hle : ln * z' + (hn' - ln) * z' ≤ n * z' := by
       rw [← Nat.add_mul]; exact Nat.mul_le_mul_right _ (by omega)
      refine .sl _ _ _ B (off + ln * z') _ arr T fz (by simp; omega) (by omega) (fun e he => hzz e (List.mem_of_mem_drop (List.mem_of_mem_take he))) hbk (by omega) (fun k hk => ?_) (fun i f e u he hf => ?_)
      ·rw [Nat.add_assoc]; exact hA _ (by omega)
      ·rw [List.getElem?_take] at he
       split at he
       case isFalse => cases he
       rw [List.getElem?_drop] at he
       have := hc _ f e u he hf
       rwa [show off + (ln + i) * z' + f = off + ln * z' + i * z' + f by rw [Nat.add_mul]; omega] at this
  ·rename_i z' hb
   refine good_val' hd fun a w κ γ hh ht => ?_
   have hv := opd_rv hx ht; rw [hb] at hv
   obtain ⟨l, hE, hl⟩ := optB_run hE hlo ht
   obtain ⟨h, hE, hh'⟩ := optB_run hE hhi ht
   obtain ⟨rfl, rfl, hE⟩ := hE
   generalize hev : a.eval x = v at hv
   cases hv with
   | pure u v hr => cases hr
   | nil =>
    refine ⟨_, _, w, hE, run a w none 0 0 0 0 hev hl (by simpa using hh') (by omega) (by omega) (by simp), .refl w, ?_⟩
    simpa using RV.nil _
  ·rename_i p off len hb
   obtain ⟨hsz, hE⟩ := hE
   refine good_val' hd fun a w κ γ hh ht => ?_
   have hv := opd_rv hx ht; rw [hb] at hv
   obtain ⟨l, hE, hl⟩ := optB_run hE hlo ht
   obtain ⟨h, hE, hh'⟩ := optB_run hE hhi ht
   obtain ⟨g0, g1, g2, hE⟩ := hE
   obtain ⟨ln, rfl⟩ : ∃ ln : Nat, l = ln := ⟨l.toNat, by omega⟩
   obtain ⟨hn', rfl⟩ : ∃ hn' : Nat, h = hn' := ⟨h.toNat, by omega⟩
   simp only [Int.toNat_natCast] at hE
   generalize hev : a.eval x = v at hv
   cases hv with
   | pure u v hr => cases hr
   | rf0 p z' off hk hc =>
    have e1 : ln = 0 := by omega
    have e2 : hn' = 0 := by omega
    subst e1; subst e2
    refine ⟨_, _, w, hE, run a w none 0 0 _ _ hev hl hh' g0 g1 (by simp), .refl w, ?_⟩
    simpa using RV.rf0 (w := w) (A := F.A) p z' _ hk hc
   | rfE p z' n c B o off o1 c1 hk hc q1 q2 q3 =>
    have e1 : ln = 0 := by omega
    have e2 : hn' = 0 := by omega
    subst e1; subst e2
    refine ⟨_, _, w, hE, run a w _ 0 c1 _ _ hev hl hh' g0 g1 (by simp), .refl w, ?_⟩
    have := RV.rfE (w := w) (A := F.A) p z' n c B o (off + 1) o1 c1 hk hc q1 q2 (by omega)
    simpa [add_mid, offE] using this
   | rf p z' n c B o off len hk hc hb' hn =>
    rw [hc] at hsz
    simp only [Option.map_some, Option.some.injEq] at hsz
    subst hsz
    refine ⟨_, _, w, hE, run a w _ len (c - off) _ _ hev hl hh' g0 g1 (by omega), .refl w, ?_⟩
    simp only [Int.toNat_natCast]
    by_cases hcl : c - off = ln
    ·have e0 : hn' - ln = 0 := by omega
     rw [if_pos hcl, e0]
     refine .rfE p z' n c B o _ _ _ hk hc (by omega) ?_ (by simp [offE])
     rw [hcl, Nat.sub_self]
     have : off * z' ≤ c * z' := Nat.mul_le_mul_right _ (by omega)
     omega
    ·rw [if_neg hcl]
     simp only [Option.map_some, add_mid]
     by_cases he : hn' - ln = 0
     ·rw [he]
      refine .rfE p z' n c B o _ _ _ hk hc (by omega) ?_ (by simp [offE])
      have e1 : off * z' + ln * z' + (c - off - ln) * z' = (off + ln + (c - off - ln)) * z' := by rw [← Nat.add_mul, ← Nat.add_mul]
      have e2 : off + ln + (c - off - ln) = c := by omega
      rw [e2] at e1; omega
     ·have := RV.rf (w := w) (A := F.A) p z' n c B o (off + ln) (hn' - ln) hk hc (by omega) hn
      rw [show o + (off + ln) * z' = o + off * z' + ln * z' by rw [Nat.add_mul]; omega, show c - (off + ln) = c - off - ln by omega] at this
      simpa [offE, he] using this
  ·exact hE.elim
end
end Go.Proofs.YtmedelmfkciblaaT


namespace Go.Proofs.YtmedelmfkciblaaT
set_option linter.unusedVariables false
set_option linter.unusedSimpArgs false
open Go
section
variable {P : Program} {F : Fr} {st : St} {w w' w0 : World} {S0 : Nat → Nat → Prop} {κ κ' : Path → Value} {γ γ' : Nat → Nat → Option Path} {H H1 : Hp} {A K : Nat → Nat → Prop} {o : Oper} {E : Eff} {root : Nat}
theorem HR.regroup {L : List TV} {cells : List TV} (h : HR w0 S0 A w κ γ (wr0 H1 L)) (h0 : H1 0 = []) (hr0 : root ≠ 0)
  (hl : ∀ q, (∀ j r, q ≠ (root, j) :: r) → (∀ j r, q ≠ (0, j) :: r) → Live H1 q → κ' q = κ q ∧ ∀ b o, γ b o = some q → γ' b o = some q ∧ K b o)
  (hκr : ∀ s : Nat × Nat, s.1 ≠ root → s.1 ≠ 0 → κ' [s] = κ [s])
  (hkeep : Keep K w w') (hA : ∀ b o, A b o → K b o)
  (hown : ∀ b o q, γ' b o = some q → b < w'.heap.size ∧ (S0 b o ∨ w0.heap.size ≤ b))
  (hchg : Chg S0 w0 w')
  (hnew : ∀ j u, cells[j]? = some u → TR w' κ' γ' A [(root, j)] u (κ' [(root, j)])) :
  HR w0 S0 A w' κ' γ' (setRoot H1 root cells) := by
 refine ⟨?_, hown, h.old, hchg⟩
 rintro ⟨i, j⟩ u hu
 by_cases hi : i = root
 ·subst hi
  simp only [setRoot, if_true] at hu
  exact hnew j u hu
 ·simp only [setRoot, hi, if_false] at hu
  have hi0 : i ≠ 0 := by rintro rfl; simp [h0] at hu
  rw [hκr _ hi hi0]
  have hu' : (wr0 H1 L (i, j).1)[(i, j).2]? = some u := by simpa [wr0, hi0] using hu
  refine h.root_keep hu' (fun q hq hlq => ?_) hkeep hA
  obtain ⟨t, rfl⟩ := hq
  refine hl _ ?_ ?_ ?_
  ·intro j' r hh; simp at hh; exact hi hh.1.1
  ·intro j' r hh; simp at hh; exact hi0 hh.1.1
  ·obtain ⟨x, hx, hs⟩ := hlq
   refine ⟨x, ?_, hs⟩
   rw [cellAt_wr0] at hx
   ·exact hx
   ·intro j' r hh; simp at hh; exact hi0 hh.1.1
def grpκ (κ : Path → Value) (root z : Nat) (v : Value) : Path → Value
 | [s] => if s = (root, 0) then v else κ [s]
 | s :: t :: r => if s = (root, 0) then κ ((0, t.1 * z + t.2) :: r) else κ (s :: t :: r)
 | [] => κ []
def grpγ (γ : Nat → Nat → Option Path) (root z B : Nat) (b o : Nat) : Option Path :=
 if b = B then some [(root, 0)] else match γ b o with
  | some (s :: r) => if s.1 = 0 then some ((root, 0) :: (s.2 / z, s.2 % z) :: r) else some (s :: r)
  | x => x
theorem grpκ_root {z : Nat} {v : Value} : grpκ κ root z v [(root, 0)] = v := if_pos rfl
theorem grpκ_kid {z : Nat} {v : Value} (i f : Nat) (r : Path) : grpκ κ root z v ([(root, 0), (i, f)] ++ r) = κ ((0, i * z + f) :: r) := if_pos rfl
theorem grpκ_other {z : Nat} {v : Value} (q : Path) (h : ∀ j r, q ≠ (root, j) :: r) : grpκ κ root z v q = κ q := by
 cases q with
 | nil => rfl
 | cons s q =>
  have hs : s ≠ (root, 0) := by rintro rfl; exact h _ _ rfl
  cases q <;> simp [grpκ, hs]
theorem Keep.alloc (w : World) (ob : Obj) (K : Nat → Nat → Prop) : Keep K w (w.alloc ob) := by
 have hh : ∀ b : Nat, b < w.heap.size → (w.alloc ob).heap[b]? = w.heap[b]? := fun b hb => RowKit.Below.heap_alloc w ob b hb
 have lt : ∀ (b : Nat) (x : Obj), w.heap[b]? = some x → b < w.heap.size := by
  intro b x hx
  rcases Nat.lt_or_ge b w.heap.size with h | h
  ·exact h
  ·rw [Array.getElem?_eq_none h] at hx; cases hx
 exact ⟨by simp, fun b arr T fz hb => ⟨arr, by rw [hh b (lt b _ hb)]; exact hb, rfl, fun _ _ => rfl⟩, fun b x hb _ => by rw [hh b (lt b _ hb)]; exact hb⟩
theorem heap_new (w : World) (ob : Obj) : (w.alloc ob).heap[w.heap.size]? = some ob := by
 show (w.heap.push ob)[w.heap.size]? = some ob
 exact Array.getElem?_push_size
theorem HR.size_le (h : HR w0 S0 A w κ γ H) : w0.heap.size ≤ w.heap.size := h.chg.keep.size
theorem HR.newFlat {L : List TV} {arr : Array Value} {T : TypeId} {z : Nat} {u : TV} {v : Value} (h : HR w0 S0 A w κ γ (wr0 H1 L)) (h0 : H1 0 = []) (hr0 : root ≠ 0)
  (hv : ∀ (k : Nat) (c : TV), L[k]? = some c → (arr[k]?).getD undef = κ [(0, k)])
  (hkid : (u = .po true L ∧ z = L.length ∧ v = .pointer (some ⟨w.heap.size, 0, none⟩)) ∨ (∃ len, u = .sl true z (chunk z len L) ∧ z ≠ 0 ∧ L.length = len * z ∧ v = .slice (some ⟨w.heap.size, 0, none⟩) len len))
  (hsz : arr.size = L.length) :
  HR w0 S0 A (w.alloc (.cells arr T)) (grpκ κ root z v) (grpγ γ root z w.heap.size) (setRoot H1 root [u]) := by
 have hB : ∀ b o q, γ b o = some q → b ≠ w.heap.size := fun b o q hb => by have := (h.own b o q hb).1; omega
 have loose : ∀ (k : Nat) (c : TV) (i f : Nat), L[k]? = some c → i * z + f = k → f < z → TR (w.alloc (.cells arr T)) (grpκ κ root z v) (grpγ γ root z w.heap.size) A [(root, 0), (i, f)] c ((arr[k]?).getD undef) := by
  intro k c i f hc hk hf
  rw [hv k c hc]
  have hT := h.root (0, k) c (by simpa [wr0] using hc)
  refine hT.ren (K := fun _ _ => True) _ (fun r nd hd hs => ⟨?_, fun b o' hb => ⟨?_, trivial⟩⟩) (Keep.alloc _ _ _) (fun _ _ _ => trivial) (fun _ _ h => h)
  ·have := grpκ_kid (κ := κ) (root := root) (z := z) (v := v) i f r
   rw [hk] at this; simpa using this
  ·simp only [grpγ, hB b o' _ hb, if_false, hb]
   have e1 : k / z = i := by
    rw [← hk, Nat.mul_comm, Nat.mul_add_div (by omega), Nat.div_eq_of_lt hf, Nat.add_zero]
   have e2 : k % z = f := by
    rw [← hk, Nat.mul_comm, Nat.mul_add_mod, Nat.mod_eq_of_lt hf]
   simp [e1, e2]
 refine h.regroup (K := fun _ _ => True) h0 hr0 (fun q hq hq0 hl => ⟨grpκ_other q hq, fun b o hb => ⟨?_, trivial⟩⟩) (fun s hs hs0 => grpκ_other _ (by rintro j r hh; simp at hh; exact hs (by rw [hh.1]))) (Keep.alloc _ _ _) (fun _ _ _ => trivial) ?_ ?_ ?_
 ·simp only [grpγ, hB b o q hb, if_false, hb]
  cases q with
  | nil => rfl
  | cons s r =>
   have : s.1 ≠ 0 := by intro hs; exact hq0 s.2 r (by rw [← hs])
   simp [this]
 ·intro b o q hb
  simp only [World.size_alloc]
  simp only [grpγ] at hb
  split at hb
  ·rename_i hbb; subst hbb
   exact ⟨by omega, .inr h.size_le⟩
  ·have : ∃ q', γ b o = some q' := by
    cases hg : γ b o with
    | none => rw [hg] at hb; cases hb
    | some q' => exact ⟨q', rfl⟩
   obtain ⟨q', hq'⟩ := this
   have := h.own b o q' hq'
   exact ⟨by omega, this.2⟩
 ·exact h.chg.trans (S' := fun _ _ => False) ⟨rfl, rfl, rfl, Keep.alloc _ _ _⟩ (fun _ _ h => h.elim)
 ·intro j x hx
  cases j with
  | succ j => simp at hx
  | zero =>
   simp only [List.getElem?_cons_zero, Option.some.injEq] at hx
   subst hx
   rw [grpκ_root]
   rcases hkid with ⟨rfl, rfl, rfl⟩ | ⟨len, rfl, hz0, hlen, rfl⟩
   ·refine .po _ _ _ _ arr T grpκ_root (heap_new _ _) (by omega) (fun k _ => by simp [grpγ]) fun f u hf => ?_
    rw [Nat.zero_add]
    exact loose f u 0 f hf (by simp) (List.getElem?_eq_some_iff.1 hf).1
   ·have chunk_get : ∀ (len : Nat) (L : List TV) (i : Nat) (e : List TV), (chunk z len L)[i]? = some e → i < len ∧ e = (L.drop (i * z)).take z := by
     intro len
     induction len with
     | zero => intro L i e he; simp [chunk] at he
     | succ len ih =>
      intro L i e he
      cases i with
      | zero => simp [chunk] at he; exact ⟨by omega, by simp [he]⟩
      | succ i =>
       simp only [chunk, List.getElem?_cons_succ] at he
       obtain ⟨h1, h2⟩ := ih _ _ _ he
       refine ⟨by omega, ?_⟩
       rw [h2, List.drop_drop]
       congr 2; rw [Nat.add_mul]; omega
    have chunk_len : ∀ (len : Nat) (L : List TV), (chunk z len L).length = len := by
     intro len
     induction len with
     | zero => intro L; rfl
     | succ len ih => intro L; simp [chunk, ih]
    refine .sl _ z len len _ _ _ arr T grpκ_root (chunk_len _ _) (Nat.le_refl _) (fun e he => ?_) (heap_new _ _) (by omega) (fun k _ => by simp [grpγ]) fun i f e u he hf => ?_
    ·obtain ⟨i, hi⟩ := List.getElem?_of_mem he
     obtain ⟨h1, rfl⟩ := chunk_get _ _ _ _ hi
     have : (i + 1) * z ≤ len * z := Nat.mul_le_mul_right z h1
     rw [Nat.add_mul] at this
     simp; omega
    ·obtain ⟨h1, rfl⟩ := chunk_get _ _ _ _ he
     rw [List.getElem?_take] at hf
     split at hf
     case isFalse => cases hf
     rename_i hfz
     rw [List.getElem?_drop] at hf
     rw [Nat.zero_add]
     exact loose (i * z + f) u i f hf rfl hfz
theorem modH_nil (φ : TV → TV) {p : Path} {r : Nat} (h : H r = []) : modH H φ p r = [] := by
 cases p with
 | nil => exact h
 | cons s q => simp only [modH]; split <;> simp [h]
theorem take1_nil {c u : TV} {d : List Path} {r : Nat} (ht : take1 H c = some (u, H1, d)) (h : H r = []) : H1 r = [] := by
 unfold take1 at ht
 split at ht
 ·split at ht
  ·simp only [Option.some.injEq, Prod.mk.injEq] at ht
   obtain ⟨_, rfl, _⟩ := ht; exact modH_nil _ h
  ·cases ht
 ·split at ht
  ·simp only [Option.some.injEq, Prod.mk.injEq] at ht
   obtain ⟨_, rfl, _⟩ := ht; exact modH_nil _ h
  ·cases ht
 ·simp only [Option.some.injEq, Prod.mk.injEq] at ht
  obtain ⟨_, rfl, _⟩ := ht; exact h
 ·split at ht
  ·simp only [Option.some.injEq, Prod.mk.injEq] at ht
   obtain ⟨_, rfl, _⟩ := ht; exact h
  ·cases ht
theorem takeL_nil : ∀ {cs us : List TV} {H H1 : Hp} {d : List Path} {r : Nat}, takeL cs H = some (us, H1, d) → H r = [] → H1 r = []
 | [], us, H, H1, d, r, ht, h => by
  simp only [takeL, Option.some.injEq, Prod.mk.injEq] at ht
  obtain ⟨_, rfl, _⟩ := ht; exact h
 | c :: cs, us, H, H1, d, r, ht, h => by
  simp only [takeL, Option.bind_eq_some_iff, Option.some.injEq, Prod.mk.injEq] at ht
  obtain ⟨⟨u, H2, d2⟩, h1, ⟨us', H3, d3⟩, h2, rfl, rfl, rfl⟩ := ht
  exact takeL_nil h2 (take1_nil h1 h)
theorem shapeAt_setRoot {cells : List TV} {q : Path} (h : ∀ j r, q ≠ (root, j) :: r) : shapeAt (setRoot H root cells) q = shapeAt H q := by
 cases q with
 | nil => rfl
 | cons s r =>
  have : s.1 ≠ root := by intro hs; exact h s.2 r (by rw [← hs])
  simp [shapeAt, cellAt, setRoot, this]
theorem live_notroot {q : Path} {r : Nat} (h : H r = []) (hq : (shapeAt H q).isSome = true) : ∀ j t, q ≠ (r, j) :: t := by
 rintro j t rfl
 simp [shapeAt, cellAt, h] at hq
theorem under_false {ds : List Path} {q : Path} (h : under ds q = false) : ∀ p ∈ ds, ¬ p <+: q := by
 intro p hp hh
 have : under ds q = true := List.any_eq_true.2 ⟨p, hp, List.isPrefixOf_iff_prefix.2 hh⟩
 rw [h] at this; cases this
theorem Rel.freshF {dst : Option Nat} {a : Act} {x : Value} {v : TV} {ds : List Path} {cells : List TV} {wr : List Nat} {norg : List (Option Nat)} (h0 : st.H 0 = []) (hH1 : H1 0 = []) (hroot : ∀ q, (∀ p ∈ ds, ¬ p <+: q) → (shapeAt st.H q).isSome = true → ∀ j r, q ≠ (root, j) :: r) (hr0 : 2 ≤ root)
  (hs : a.tmps.size = F.N) (hd : ∀ d, dst = some d → d < F.N) (hdef : a.defers = []) (h6 : ∀ b, κ [(1, b)] = F.k1 b) (h7 : ∀ q m, st.org q = some m → Live st.H q → κ q = F.k1 m) (h8 : ∀ (f m : Nat), norg[f]? = some (some m) → κ' [(root, 0), (0, f)] = F.k1 m)
  (ht : ∀ k, RV w κ st.H F.A (st.t k) ((a.tmps[k]?).getD undef))
  (hh : HR F.w0 F.S0 F.A w' κ' γ' (setRoot H1 root cells))
  (hκ : ∀ q, (∀ j r, q ≠ (0, j) :: r) → (∀ j r, q ≠ (root, j) :: r) → κ' q = κ q)
  (hsh : ∀ q, (∀ p ∈ ds, ¬ p <+: q) → shapeAt H1 q = shapeAt st.H q)
  (hk : Keep K w w') (hA : ∀ b o, F.A b o → K b o)
  (hv : dst ≠ none → RV w' κ' (setRoot H1 root cells) F.A v x) :
  Rel F (st.put dst { v, dead := if ds = [] then none else some (under ds), H := setRoot H1 root cells, wr, nr := some root, norg }) (a.put dst x) w' := by
 have step : ∀ q, (∀ p ∈ ds, ¬ p <+: q) → (shapeAt st.H q).isSome = true → κ' q = κ q ∧ shapeAt (setRoot H1 root cells) q = shapeAt st.H q := by
  intro q hq hl
  have n0 := live_notroot h0 hl
  have n1 := hroot q hq hl
  exact ⟨hκ q n0 n1, (shapeAt_setRoot n1).trans (hsh q hq)⟩
 refine Rel.put hh (by simp [setRoot, show 0 ≠ root by omega, hH1]) hs hd hdef (fun b => (hκ _ (by simp) (by intro j r hh; simp at hh; omega)).trans (h6 b)) (fun q m hq hl => ?_) hv fun k => ?_
 ·obtain ⟨s, r, rfl, hcase⟩ := orgPut_some hq hl
  rcases hcase with ⟨hn, hs2, f, rfl, hnf⟩ | ⟨hn, hdd, hq⟩
  ·obtain ⟨s1, s2⟩ := s
   simp only [Option.some.injEq] at hn hs2
   subst hn; subst hs2
   exact h8 _ _ hnf
  ·have hs' : root ≠ s.1 := fun hh => hn (by rw [hh])
   have hnr : ∀ j t, s :: r ≠ (root, j) :: t := by rintro j t hh; cases hh; exact hs' rfl
   have hq' : ∀ p ∈ ds, ¬ p <+: s :: r := by
    by_cases hds : ds = []
    ·intro p hp; rw [hds] at hp; cases hp
    ·simp only [hds, if_false] at hdd
     exact under_false hdd
   have hl0 : (shapeAt st.H (s :: r)).isSome = true := by
    rw [live_iff, shapeAt_setRoot hnr, hsh _ hq'] at hl; exact hl
   rw [(step _ hq' hl0).1]
   exact h7 _ _ hq ((live_iff _ _).2 hl0)
 by_cases hds : ds = []
 ·subst hds
  simp only [if_true, deadT]
  exact (ht k).mono (fun q hl => step q (by simp) hl) hk hA
 ·simp only [hds, if_false, deadT]
  exact (ht k).kill _ (fun q hq hl => step q (under_false hq) hl) hk hA
theorem Rel.fresh {dst : Option Nat} {a : Act} {x : Value} {v : TV} {ds : List Path} {cells : List TV} {wr : List Nat} {norg : List (Option Nat)} (h0 : st.H 0 = []) (hH1 : H1 0 = []) (hroot : st.H root = []) (hr0 : 2 ≤ root)
  (hs : a.tmps.size = F.N) (hd : ∀ d, dst = some d → d < F.N) (hdef : a.defers = []) (h6 : ∀ b, κ [(1, b)] = F.k1 b) (h7 : ∀ q m, st.org q = some m → Live st.H q → κ q = F.k1 m) (h8 : ∀ (f m : Nat), norg[f]? = some (some m) → κ' [(root, 0), (0, f)] = F.k1 m)
  (ht : ∀ k, RV w κ st.H F.A (st.t k) ((a.tmps[k]?).getD undef))
  (hh : HR F.w0 F.S0 F.A w' κ' γ' (setRoot H1 root cells))
  (hκ : ∀ q, (∀ j r, q ≠ (0, j) :: r) → (∀ j r, q ≠ (root, j) :: r) → κ' q = κ q)
  (hsh : ∀ q, (∀ p ∈ ds, ¬ p <+: q) → shapeAt H1 q = shapeAt st.H q)
  (hk : Keep K w w') (hA : ∀ b o, F.A b o → K b o)
  (hv : dst ≠ none → RV w' κ' (setRoot H1 root cells) F.A v x) :
  Rel F (st.put dst { v, dead := if ds = [] then none else some (under ds), H := setRoot H1 root cells, wr, nr := some root, norg }) (a.put dst x) w' :=
 Rel.freshF h0 hH1 (fun q _ hl => live_notroot hroot hl) hr0 hs hd hdef h6 h7 h8 ht hh hκ hsh hk hA hv
theorem notroot_free {ds : List Path} (hroot : freeR H1 root = true) (hsh : ∀ q, (∀ p ∈ ds, ¬ p <+: q) → shapeAt H1 q = shapeAt st.H q) :
  ∀ q, (∀ p ∈ ds, ¬ p <+: q) → (shapeAt st.H q).isSome = true → ∀ j r, q ≠ (root, j) :: r := by
 rintro q hq hl j r rfl
 rw [← hsh _ hq] at hl
 simp only [shapeAt, cellAt] at hl
 cases hc : (H1 root)[j]? with
 | none => simp [hc] at hl
 | some u =>
  have hu := List.all_eq_true.1 hroot u (List.mem_of_getElem? hc)
  have : u = .junk := by cases u <;> first | rfl | cases hu
  subst this
  simp only [hc, Option.bind_some] at hl
  cases r with
  | nil => simp [down, shape] at hl
  | cons s r => simp [down, kid] at hl
theorem rv_cells {x : TV} {v : Value} (h : RV w κ H A x v) (hne : ∀ c ∈ cellsT x, c ≠ .junk) (hn : isAg x = true ∨ (∀ vs, x ≠ .tu vs)) :
  (cellsT x).length = (cellsV v).length ∧ ∀ (j : Nat) (c : TV) (y : Value), (cellsT x)[j]? = some c → (cellsV v)[j]? = some y → RV w κ H A c y := by
 have h' := h
 cases h with
 | ag cs vs hl hc =>
  refine ⟨by simpa [cellsT, cellsV] using hl, fun j c y hj hy => ?_⟩
  have := hc j c hj
  simp only [cellsV, Array.getElem?_toList] at hy
  simpa [hy] using this
 | tu cs vs hl hc =>
  rcases hn with hn | hn
  ·cases hn
  ·exact absurd rfl (hn cs)
 | pure u v h =>
  cases h with
  | junk => exact absurd rfl (hne _ (by simp [cellsT]))
  | pin v h1 =>
   have hcv : cellsV v = [v] := by cases v <;> first | rfl | cases h1
   rw [hcv]
   refine ⟨rfl, fun j c y hj hy => ?_⟩
   cases j with
   | zero => simp [cellsT] at hj; simp at hy; subst hj; subst hy; exact h'
   | succ j => simp [cellsT] at hj
  | _ =>
   refine ⟨rfl, fun j c y hj hy => ?_⟩
   cases j with
   | zero => simp [cellsT] at hj; simp [cellsV] at hy; subst hj; subst hy; exact h'
   | succ j => simp [cellsT] at hj
 | _ =>
  refine ⟨rfl, fun j c y hj hy => ?_⟩
  cases j with
  | zero => simp [cellsT] at hj; simp [cellsV] at hy; subst hj; subst hy; exact h'
  | succ j => simp [cellsT] at hj
end
end Go.Proofs.YtmedelmfkciblaaT

