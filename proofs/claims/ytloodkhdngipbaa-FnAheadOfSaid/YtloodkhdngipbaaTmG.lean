/- TM, part G: the program's code turned into the machine's; the tie between a frame and an abstract state. -/
import Derived.Test.YtloodkhdngipbaaTmF
namespace Go.Proofs.YtloodkhdngipbaaT
set_option linter.unusedVariables false
set_option linter.unusedSimpArgs false
open Go

section
variable (P : Program)
def tySize (t : TypeId) : Option Nat := (P.info? t).map (·.size)
def tyBytes (t : TypeId) : Option Nat := (P.info? t).map (·.bytes)
def tyZero (t : TypeId) : Option Value := (P.info? t).bind (·.zero)
def tyAgg (t : TypeId) : Option Bool := (P.underlying t).map fun | .struct _ | .array _ _ => true | _ => false
def tyElem (t : TypeId) : Option TypeId := (P.underlying t).bind fun | .slice e => some e | _ => none
def tyPtr (t : TypeId) : Nat := match P.underlying t with
  | some (.pointer e) => (tySize P e).getD 0
  | _ => 0

/-- The types of a type's cells. -/
def flatTys : Nat → TypeId → List TypeId
  | 0, t => [t]
  | n + 1, t => match P.underlying t with
    | some (.struct fs) => fs.toList.flatMap fun f => flatTys n f.type
    | some (.array k e) => (List.replicate k (flatTys n e)).flatten
    | _ => [t]

def valC (t : TypeId) : Value → Option TV
  | .bool b => some (.b b)
  | .int k n => some (.i k n)
  | .float .f64 x => some (.f (canon x))
  | .string s => some (.s s)
  | .pointer none => some .np
  | .slice none 0 0 => (tyElem P t).bind fun e => (tySize P e).bind fun z => some (.sl true z [])
  | _ => none

def valCs : List TypeId → List Value → Option (List TV)
  | [], [] => some []
  | t :: ts, v :: vs => (valC P t v).bind fun u => (valCs ts vs).bind fun us => some (u :: us)
  | _, _ => none

def valT (t : TypeId) : Value → Option TV
  | .agg cs => (valCs P (flatTys P 8 t) cs.toList).bind fun us => some (.ag us)
  | v => valC P t v

def compOpd (t : TypeId) : Operand → Option TOpd
  | .tmp n => some (.t n)
  | .const v => (valT P t v).bind fun u => some (.c u)
  | .func f => some (.c (.fn f []))
  | .global _ => none

def optAll {α : Type} : List (Option α) → Option (List α)
  | [] => some []
  | x :: xs => x.bind fun a => (optAll xs).bind fun as => some (a :: as)

def ekOf (t : TypeId) : Option EK := match P.underlying t with
  | some .bool => some .b
  | some (.int _) => some .i
  | some (.float .f64) => some .f
  | some .string => some .s
  | _ => none

/-- A struct whose fields are single cells that compare by themselves. -/
def flatEq (t : TypeId) : Option (List EK) := match P.underlying t with
  | some (.struct fs) => if !P.stoodInHeld t && !P.eqGuardType P.depth t && (fs.toList.zipIdx.all fun (f, i) => f.name != "_" && f.offset == i) then optAll (fs.toList.map fun f => ekOf P f.type) else none
  | _ => none

def compOp0 (o : Oper) : Option TOp :=
  match o.op with
  | .move x | .assign x => (compOpd P o.type x).bind fun x => some (.mv x)
  | .pick c a b => (compOpd P o.type c).bind fun c => (compOpd P o.type a).bind fun a => (compOpd P o.type b).bind fun b => some (.pick c a b)
  | .alloc e => (tyZero P e).bind fun zv => (valT P e zv).bind fun u => some (.box (cellsT u).length (.c u))
  | .box e x => (tySize P e).bind fun n => (compOpd P e x).bind fun x => some (.box n x)
  | .build t ps => match P.underlying t with
    | some (.struct fs) => (tyZero P t).bind fun zv => (valT P t zv).bind fun u =>
      (optAll (ps.toList.map fun (i, x) => (fs[i]?).bind fun f => (tySize P f.type).bind fun n => (compOpd P f.type x).bind fun x => some (f.offset, n, x))).bind fun ps =>
      if isAg u && fs.toList.all (fun f => (tySize P f.type).isSome) then some (.build (cellsT u) ps) else none
    | _ => none
  | .buildSlice t len ps => (tyElem P t).bind fun e => (tySize P e).bind fun z => (tyZero P e).bind fun zv => (valT P e zv).bind fun u =>
      (optAll (ps.toList.map fun (i, x) => (compOpd P e x).bind fun x => some (i, x))).bind fun ps =>
      if len * z ≤ 2 ^ 24 && z != 0 && (cellsT u).length == z && ps.all (fun x => decide (x.1 < len)) then some (.bslice z len (cellsT u) ps) else none
  | .load t a => (tyAgg P t).bind fun g => (tySize P t).bind fun n => (compOpd P o.type a).bind fun a => if g || n == 1 then some (.load g n a) else none
  | .store t a x => (tySize P t).bind fun n => (compOpd P t a).bind fun a => (compOpd P t x).bind fun x => some (.store n a x)
  | .nilCheck x => (compOpd P o.type x).bind fun x => some (.nilck x)
  | .binOp op t x y u =>
    match P.underlying t with
    | some (.int _) | some .string | some (.float .f64) => (compOpd P t x).bind fun x => (compOpd P u y).bind fun y => some (.bin op x y)
    | some .bool => (compOpd P t x).bind fun x => (compOpd P t y).bind fun y => match op with
      | .eql => some (.eqs false false [.b] x y)
      | .neq => some (.eqs true false [.b] x y)
      | _ => none
    | some (.struct _) => (flatEq P t).bind fun ks => (compOpd P t x).bind fun x => (compOpd P t y).bind fun y => match op with
      | .eql => some (.eqs false true ks x y)
      | .neq => some (.eqs true true ks x y)
      | _ => none
    | some (.pointer _) => (compOpd P t x).bind fun x => (compOpd P t y).bind fun y => match op with
      | .eql => some (.eqp false x y)
      | .neq => some (.eqp true x y)
      | _ => none
    | _ => none
  | .unOp op t x => (compOpd P t x).bind fun x => some (.un op x)
  | .convert s d x => (P.underlying s).bind fun us => match P.underlying d with
    | some (.int k) => (compOpd P s x).bind fun x => some (.toInt k x)
    | some (.float .f64) => (compOpd P s x).bind fun x => some (.toF x)
    | some .string => match us with
      | .slice e => match P.underlying e with
        | some (.int .u8) => (compOpd P s x).bind fun x => some (.toS x)
        | _ => none
      | _ => none
    | _ => none
  | .makeFunc (.func g) first caps => if first.isEmpty then (optAll (caps.toList.map fun x => compOpd P o.type x)).bind fun cs => some (.mkfn g cs) else none
  | .makeSlice t l c => (tyElem P t).bind fun e => (tySize P e).bind fun z => (tyBytes P e).bind fun by_ => (tyZero P e).bind fun zv => (valT P e zv).bind fun u =>
      (compOpd P t l).bind fun l => (compOpd P t c).bind fun c => if z != 0 && by_ != 0 && (cellsT u).length == z then some (.mkslice z by_ (cellsT u) l c) else none
  | .slice t x lo hi none => (match P.underlying t with
      | some .string => some (true, 0)
      | some (.slice e) => (tySize P e).bind fun z => some (false, z)
      | _ => none).bind fun sz => (compOpd P t x).bind fun x =>
      (match lo with | none => some none | some y => (compOpd P t y).bind fun y => some (some y)).bind fun lo =>
      (match hi with | none => some none | some y => (compOpd P t y).bind fun y => some (some y)).bind fun hi => some (.slice sz.1 sz.2 x lo hi)
  | .fieldAddr s x f => match P.underlying s with
    | some (.struct fs) => (fs[f]?).bind fun f => (tySize P f.type).bind fun n => (compOpd P s x).bind fun x => if n != 0 then some (.faddr f.offset n x) else none
    | _ => none
  | .field s x f => match P.underlying s with
    | some (.struct fs) => (fs[f]?).bind fun f => (tySize P f.type).bind fun n => (tyAgg P f.type).bind fun g => (compOpd P s x).bind fun x => if g || n == 1 then some (.fld g f.offset n x) else none
    | _ => none
  | .indexAddr t x i => (tyElem P t).bind fun e => (tySize P e).bind fun z => (compOpd P t x).bind fun x => (compOpd P t i).bind fun i => some (.iaddr z x i)
  | .index t x i => match P.underlying t with
    | some .string => (compOpd P t x).bind fun x => (compOpd P t i).bind fun i => some (.ix x i)
    | _ => none
  | .extract x k => (compOpd P o.type x).bind fun x => some (.ext k x)
  | .call c =>
    match c.callee with
    | .builtin .len => match c.args.toList, c.argTypes[0]? with
      | [x], some t => match P.underlying t with
        | some .string => (compOpd P t x).bind fun x => some (.len true x)
        | some (.slice _) => (compOpd P t x).bind fun x => some (.len false x)
        | _ => none
      | _, _ => none
    | .builtin .append => match c.args.toList, c.argTypes.toList with
      | [s, x], [t, u] => (tyElem P t).bind fun e => (tySize P e).bind fun z => (tyBytes P e).bind fun by_ =>
        (compOpd P t s).bind fun s => (compOpd P u x).bind fun x =>
        if z != 0 && by_ != 0 && (tyElem P u).isSome && (tyZero P e).map (·.cells.size) == some z then some (.app z by_ s x) else none
      | _, _ => none
    | .builtin .max => match c.args.toList with
      | [x, y] => (compOpd P o.type x).bind fun x => (compOpd P o.type y).bind fun y => some (.maxi x y)
      | _ => none
    | .value f => (optAll ((c.args.toList.zip c.argTypes.toList).map fun (x, t) => (compOpd P t x).bind fun y => some (y, tyPtr P t))).bind fun as =>
      if c.args.size != c.argTypes.size then none else
      match f with
      | .func g => if callable P g then some (.call g as) else none
      | .tmp n => some (.callv (.t n) as)
      | _ => none
    | _ => none
  | _ => none

/-- What only stands where the code panics: no way may come there. -/
def isNever : Op → Bool
  | .makeInterface _ _ => true
  | .panic _ => true
  | .call c => match c.callee with
    | .builtin .panic => true
    | _ => false
  | _ => false
def neverOp : TOp := .callv (.c .junk) []
def compOp (o : Oper) : Option TOp := match compOp0 P o with
  | some t => some t
  | none => if isNever o.op then some neverOp else none
theorem compOp_eq {P : Program} {o : Oper} (h : isNever o.op = false) : compOp P o = compOp0 P o := by
  unfold compOp; rw [h]; cases compOp0 P o <;> rfl

/-- Which temporary a guard looks at. -/
def compGuard (ops : Array Oper) : Option (Nat × Bool) → Option (Option (Nat × Bool))
  | none => some none
  | some (j, want) => ((ops[j]?).bind (·.dst)).bind fun t => some (some (t, want))

def dstOk (N : Nat) : Option Nat → Bool
  | some d => decide (d < N)
  | none => true

def rootOf (rid k : Nat) : Option Nat → Nat
  | some d => d + 2
  | none => 1000000 + rid * 1000 + k

def compOps (N rid : Nat) (ops : Array Oper) : Nat → List Oper → Option (List TOper)
  | _, [] => some []
  | k, o :: os => (compOp P o).bind fun op => (compGuard ops o.guard).bind fun g =>
      if dstOk N o.dst = true then
        (compOps N rid ops (k + 1) os).bind fun r => some ({ dst := o.dst, root := rootOf rid k o.dst, op, guard := g, free := [] } :: r)
      else none

/-- What must come before it. -/
def predsOf (o : Oper) : List Nat := (o.after.toList.filter fun e => Region.binds .any e).map (·.on)
def ancGo : List (List Nat) → List Nat → List Nat
  | [], acc => acc
  | ps :: pss, acc => ancGo pss (acc ++ [ps.foldl (fun m p => m ||| 2 ^ p ||| (acc[p]?).getD 0) 0])
def guardTm : Option (Nat × Bool) → List Nat
  | none => []
  | some (t, _) => [t]
def lookT (o : TOper) : List Nat := guardTm o.guard ++ opTm o.op
def apartT (x y : TOper) : Bool :=
  (match x.dst with | some d => !(lookT y).contains d && y.dst != some d | none => true) &&
  (match y.dst with | some d => !(lookT x).contains d | none => true)
/-- A store that all that comes later waits for, with all that may come before or after it. -/
def lateOk (ops : Array Oper) (masks : List Nat) (n i : Nat) : Bool := match ops[i]? with
  | some o => (match o.op with | .store .. => true | _ => false) && o.guard.isNone && o.dst.isNone &&
      (List.range n).all fun j => decide (j ≤ i) || (((masks[j]?).getD 0).testBit i && (List.range i).all fun k => ((masks[i]?).getD 0).testBit k || ((masks[j]?).getD 0).testBit k)
  | none => false
def freeOf (ops : Array Oper) (masks : List Nat) (tl : List TOper) (i : Nat) (o : TOper) : List Nat :=
  let fr := (List.range i).filter fun j => !((masks[i]?).getD 0).testBit j && ((match tl[j]? with | some x => canWr x.op | none => false) || canWr o.op)
  if !fr.isEmpty && lateOk ops masks tl.length i then 1000000 :: fr else fr
/-- All that holds of the orders without a run. -/
def drawOk (ops : Array Oper) (masks : List Nat) (l : List TOper) : Bool :=
  (List.range l.length).all fun i => match ops[i]?, l[i]? with
    | some o, some y => (predsOf o).all (fun p => decide (p < i)) &&
      (List.range l.length).all (fun j => !((masks[i]?).getD 0).testBit j || (predsOf o).any fun p => p == j || ((masks[p]?).getD 0).testBit j) &&
      (List.range i).all (fun j => match l[j]? with
        | some x => ((masks[i]?).getD 0).testBit j || (apartT x y && ((unmark y.free).contains j || (!canWr x.op && !canWr y.op)))
        | none => false) &&
      (!marked y.free || lateOk ops masks l.length i)
    | _, _ => false
def compDraw (N rid : Nat) (ops : Array Oper) : Option (List TOper) := (compOps P N rid ops 0 ops.toList).bind fun tl =>
  let masks := ancGo (ops.toList.map predsOf) []
  let l := tl.mapIdx fun i o => { o with free := freeOf ops masks tl i o }
  if P.follows .mixedOrders = true ∧ drawOk ops masks l = true then some l else none

def compCode (N : Nat) : Code → Option TCode
  | .skip => some .skip
  | .region id ops false => (compOps P N id ops 0 ops.toList).bind fun l => some (.ops l)
  | .region id ops true => (compDraw P N id ops).bind fun l => some (.draw l)
  | .seq a b => (compCode N a).bind fun a => (compCode N b).bind fun b => some (.seq a b)
  | .cond c a b => (compOpd P 0 c).bind fun c => (compCode N a).bind fun a => (compCode N b).bind fun b => some (.cond c a b)
  | .block id a => (compCode N a).bind fun a => some (.block id a)
  | .loop a => (compCode N a).bind fun a => some (.loop a)
  | .exit id => some (.exit id)
  | .ret => some .ret
  | _ => none
end

/-! ### the tie -/
structure Fr where
  w0 : World
  S0 : Nat → Nat → Prop
  A : Nat → Nat → Prop
  N : Nat
  k1 : Nat → Value

def Rel (F : Fr) (st : St) (a : Act) (w : World) : Prop :=
  ∃ κ γ, HR F.w0 F.S0 F.A w κ γ st.H ∧ st.H 0 = [] ∧ a.tmps.size = F.N ∧ (∀ k, RV w κ st.H F.A (st.t k) ((a.tmps[k]?).getD undef)) ∧ a.defers = [] ∧ (∀ b, κ [(1, b)] = F.k1 b) ∧ ∀ q m, st.org q = some m → Live st.H q → κ q = F.k1 m

section
variable {P : Program} {F : Fr} {st : St} {a : Act} {w w' : World} {κ κ' : Path → Value} {γ γ' : Nat → Nat → Option Path} {H : Hp} {A : Nat → Nat → Prop}

theorem valC_rv {t : TypeId} {v : Value} {u : TV} (h : valC P t v = some u) : RV w κ H A u v ∧ (cellsT u).length = 1 ∧ isAg u = false := by
  unfold valC at h
  split at h
  · cases h; exact ⟨.pure _ _ (.b _), rfl, rfl⟩
  · cases h; exact ⟨.pure _ _ (.i _ _), rfl, rfl⟩
  · cases h; exact ⟨.pure _ _ (.f _), rfl, rfl⟩
  · cases h; exact ⟨.pure _ _ (.s _), rfl, rfl⟩
  · cases h; exact ⟨.pure _ _ .np, rfl, rfl⟩
  · simp only [Option.bind_eq_some_iff, Option.some.injEq] at h
    obtain ⟨e, _, z, _, rfl⟩ := h
    exact ⟨.nil z, rfl, rfl⟩
  · cases h

theorem valCs_rv : ∀ {ts : List TypeId} {vs : List Value} {us : List TV}, valCs P ts vs = some us → us.length = vs.length ∧ ∀ (j : Nat) (u : TV), us[j]? = some u → RV w κ H A u ((vs[j]?).getD undef)
  | [], [], us, h => by simp only [valCs, Option.some.injEq] at h; subst h; simp
  | t :: ts, v :: vs, us, h => by
    simp only [valCs, Option.bind_eq_some_iff, Option.some.injEq] at h
    obtain ⟨u, h1, us', h2, rfl⟩ := h
    obtain ⟨h3, h4⟩ := valCs_rv h2
    refine ⟨by simp [h3], fun j u' hj => ?_⟩
    cases j with
    | zero => simp at hj; subst hj; exact (valC_rv h1).1
    | succ j => simpa using h4 j u' (by simpa using hj)
  | [], _ :: _, _, h => by cases h
  | _ :: _, [], _, h => by cases h

theorem valT_rv {t : TypeId} {v : Value} {u : TV} (h : valT P t v = some u) : RV w κ H A u v := by
  unfold valT at h
  split at h
  · simp only [Option.bind_eq_some_iff, Option.some.injEq] at h
    obtain ⟨us, h1, rfl⟩ := h
    obtain ⟨h3, h4⟩ := valCs_rv (w := w) (κ := κ) (H := H) (A := A) h1
    exact .ag _ _ (by simpa using h3) (fun j u hj => by simpa using h4 j u hj)
  · exact (valC_rv h).1

theorem opd_rv {t : TypeId} {x : Operand} {y : TOpd} (h : compOpd P t x = some y) (ht : ∀ k, RV w κ H A (st.t k) ((a.tmps[k]?).getD undef)) : RV w κ H A (y.ev st) (a.eval x) := by
  cases x with
  | tmp n =>
    simp only [compOpd, Option.some.injEq] at h; subst h
    simpa [TOpd.ev, Act.eval] using ht n
  | const v =>
    simp only [compOpd, Option.bind_eq_some_iff, Option.some.injEq] at h
    obtain ⟨u, h1, rfl⟩ := h
    exact valT_rv h1
  | func f =>
    simp only [compOpd, Option.some.injEq] at h; subst h
    exact .fn _ _ _ rfl (by simp)
  | global g => cases h

theorem put_get (a : Act) (d : Nat) (v : Value) (hd : d < a.tmps.size) (k : Nat) : ((a.put (some d) v).tmps[k]?).getD undef = if d = k then v else (a.tmps[k]?).getD undef := by
  simp only [Act.put]
  by_cases hk : d = k
  · subst hk; simp [hd]
  · rw [Array.getElem?_setIfInBounds_ne hk]; simp [hk]

theorem orgPut_some {E : Eff} {q : Path} {m : Nat} (h : orgPut st E q = some m) (hl : Live H q) : ∃ s r, q = s :: r ∧
    ((E.nr = some s.1 ∧ s.2 = 0 ∧ ∃ f, r = [(0, f)] ∧ E.norg[f]? = some (some m)) ∨ (E.nr ≠ some s.1 ∧ deadB E.dead q = false ∧ st.org q = some m)) := by
  cases q with
  | nil => obtain ⟨x, hx, _⟩ := hl; cases hx
  | cons s r =>
    refine ⟨s, r, rfl, ?_⟩
    by_cases hn : E.nr = some s.1
    · simp only [orgPut, hn, if_true] at h
      split at h
      · rename_i t
        by_cases hst : s.2 = 0 ∧ t.1 = 0
        · rw [if_pos hst] at h
          refine .inl ⟨hn, hst.1, t.2, by rw [← hst.2], ?_⟩
          cases hx : E.norg[t.2]? with
          | none => simp [hx] at h
          | some y => simp [hx] at h; rw [h]
        · rw [if_neg hst] at h; cases h
      · cases h
    · simp only [orgPut, hn, if_false] at h
      by_cases hd : deadB E.dead (s :: r) = true
      · rw [if_pos hd] at h; cases h
      · rw [if_neg hd] at h
        exact .inr ⟨hn, by simpa using hd, h⟩

/-- What holds behind an operation. -/
theorem Rel.put {dst : Option Nat} {E : Eff} {x : Value} (hh : HR F.w0 F.S0 F.A w' κ' γ' E.H) (h0 : E.H 0 = []) (hs : a.tmps.size = F.N) (hd : ∀ d, dst = some d → d < F.N) (hdef : a.defers = []) (h6 : ∀ b, κ' [(1, b)] = F.k1 b)
    (h7 : ∀ q m, orgPut st E q = some m → Live E.H q → κ' q = F.k1 m) (hv : dst ≠ none → RV w' κ' E.H F.A E.v x)
    (ht : ∀ k, RV w' κ' E.H F.A (deadT E.dead (st.t k)) ((a.tmps[k]?).getD undef)) :
    Rel F (st.put dst E) (a.put dst x) w' := by
  refine ⟨κ', γ', hh, h0, ?_, ?_, ?_, h6, h7⟩
  · cases dst <;> simp [Act.put, hs]
  · intro k
    cases dst with
    | none => simpa [St.put, Act.put] using ht k
    | some d =>
      rw [put_get _ _ _ (by rw [hs]; exact hd d rfl)]
      by_cases hk : d = k
      · subst hk; simpa [St.put] using hv (by simp)
      · simp only [St.put, Option.some.injEq, hk, if_false]; exact ht k
  · cases dst <;> exact hdef

theorem Rel.val {dst : Option Nat} {v : TV} {x : Value} (hh : HR F.w0 F.S0 F.A w κ γ st.H) (h0 : st.H 0 = []) (hs : a.tmps.size = F.N) (hd : ∀ d, dst = some d → d < F.N) (hdef : a.defers = []) (h6 : ∀ b, κ [(1, b)] = F.k1 b) (h7 : ∀ q m, st.org q = some m → Live st.H q → κ q = F.k1 m)
    (ht : ∀ k, RV w κ st.H F.A (st.t k) ((a.tmps[k]?).getD undef)) (hv : RV w κ st.H F.A v x) : Rel F (st.put dst (Go.Proofs.YtloodkhdngipbaaT.val st v)) (a.put dst x) w :=
  Rel.put hh h0 hs hd hdef h6 (fun q m hq hl => h7 q m (by cases q with | nil => exact hq | cons s r => simpa [orgPut, Go.Proofs.YtloodkhdngipbaaT.val, deadB] using hq) hl) (fun _ => hv) (fun k => ht k)
end

/-! ### the model's words on types -/
section
variable {P : Program} (w : World)
theorem run_info {t : TypeId} {i : TypeInfo} (h : P.info? t = some i) : (typeInfo t).run P w = .ok i w := by simp [typeInfo, h]
theorem run_size {t : TypeId} {n : Nat} (h : tySize P t = some n) : (sizeOf t).run P w = .ok n w := by
  simp only [tySize, Option.map_eq_some_iff] at h
  obtain ⟨i, h1, rfl⟩ := h
  simp [sizeOf, run_info w h1]
theorem run_zero {t : TypeId} {v : Value} (h : tyZero P t = some v) : (zeroValue t).run P w = .ok v w := by
  simp only [tyZero, Option.bind_eq_some_iff] at h
  obtain ⟨i, h1, h2⟩ := h
  simp [zeroValue, run_info w h1, h2]
theorem run_agg {t : TypeId} {b : Bool} (h : tyAgg P t = some b) : (isAgg t).run P w = .ok b w := by
  simp only [tyAgg, Option.map_eq_some_iff] at h
  obtain ⟨d, h1, rfl⟩ := h
  unfold isAgg
  rw [Sem.run_bind, run_underlying h1]
  cases d <;> rfl
end
end Go.Proofs.YtloodkhdngipbaaT
