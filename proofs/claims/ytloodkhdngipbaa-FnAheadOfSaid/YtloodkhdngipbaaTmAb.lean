/- TM, part Ab: each operation as a rule for 'simp', stuck until what it looks at is told. -/
import Derived.Test.YtloodkhdngipbaaTmAa
namespace Go.Proofs.YtloodkhdngipbaaT
set_option linter.unusedVariables false
set_option linter.unusedSimpArgs false
open Go

section
variable {P : Program} {st : St} {root : Nat} {K : Eff → Prop}

def valK (st : St) (K : Eff → Prop) (v : TV) : Prop := K (val st v)
@[simp] theorem valK_app (v : TV) : valK st K v = K (val st v) := nrfl rfl

@[simp] theorem opW_mv (x : TOpd) : opW P st root (.mv x) K = K (val st (x.ev st)) := nrfl rfl

def pickV (st : St) (K : Eff → Prop) (a b : TV) : TV → Prop
  | .b x => K (val st (if x then a else b))
  | _ => False
@[simp] theorem opW_pick (c a b : TOpd) : opW P st root (.pick c a b) K = pickV st K (a.ev st) (b.ev st) (c.ev st) := by unfold pickV; simp only [opW]; cases c.ev st <;> rfl
@[simp] theorem pickV_t (a b : TV) : pickV st K a b (.b true) = K (val st a) := nrfl rfl
@[simp] theorem pickV_f (a b : TV) : pickV st K a b (.b false) = K (val st b) := nrfl rfl

/-- What dies, as a rule. -/
def deadU (ds : List Path) : Option (Path → Bool) := if ds = [] then none else some (under ds)
@[simp] theorem deadU_nil : deadU [] = none := nrfl rfl
@[simp] theorem deadU_cons (p : Path) (ds : List Path) : deadU (p :: ds) = some (under (p :: ds)) := nrfl rfl

def boxV (st : St) (root n : Nat) (x : TV) (K : Eff → Prop) : Option (List TV × Hp × List Path) → Prop
  | some (us, H1, ds) => us.length = n ∧ st.H root = [] ∧ 2 ≤ root ∧
        K { v := .pt [(root, 0)] 0 0, dead := deadU ds, H := setRoot H1 root [.po true us], wr := root :: ds.filterMap (fun p => p.head?.map (·.1)), nr := some root, norg := (cellsT x).map (norgOf st) }
  | none => False
@[simp] theorem opW_box (n : Nat) (x : TOpd) : opW P st root (.box n x) K = boxV st root n (x.ev st) K (takeL (cellsT (x.ev st)) st.H) := by
  unfold boxV; simp only [opW, deadU]; rfl
@[simp] theorem boxV_s (n : Nat) (x : TV) (us : List TV) (H1 : Hp) (ds : List Path) : boxV st root n x K (some (us, H1, ds)) = (us.length = n ∧ st.H root = [] ∧ 2 ≤ root ∧
        K ⟨.pt [(root, 0)] 0 0, deadU ds, setRoot H1 root [.po true us], root :: ds.filterMap (fun p => p.head?.map (·.1)), some root, (cellsT x).map (norgOf st)⟩) := nrfl rfl

def agV (st : St) (K : Eff → Prop) : Option (List TV) → Prop
  | some cs => K (val st (.ag cs))
  | none => False
@[simp] theorem opW_build (zero : List TV) (parts : List (Nat × Nat × TOpd)) : opW P st root (.build zero parts) K = agV st K (putParts zero (parts.map fun x => (x.1, x.2.1, x.2.2.ev st))) := nrfl rfl
@[simp] theorem agV_s (cs : List TV) : agV st K (some cs) = K (val st (.ag cs)) := nrfl rfl

def bsV2 (st : St) (root z len : Nat) (K : Eff → Prop) : Option (List TV × Hp × List Path) → Prop
  | some (us, H1, ds) => st.H root = [] ∧ 2 ≤ root ∧
          K { v := .rf [(root, 0)] 0 len, dead := deadU ds, H := setRoot H1 root [.sl true z (chunk z len us)], wr := root :: ds.filterMap (fun p => p.head?.map (·.1)), nr := some root }
  | none => False
def bsV (st : St) (root z len : Nat) (K : Eff → Prop) : Option (List (List TV)) → Prop
  | some es => bsV2 st root z len K (takeL es.flatten st.H)
  | none => False
theorem opW_bslice (z len : Nat) (zero : List TV) (parts : List (Nat × TOpd)) (hz : zero.length = z) : opW P st root (.bslice z len zero parts) K = bsV st root z len K (putElems z (List.replicate len zero) (parts.map fun x => (x.1, x.2.ev st))) := by
  unfold bsV bsV2; simp only [opW, deadU]
  cases putElems z (List.replicate len zero) (parts.map fun x => (x.1, x.2.ev st)) with
  | none => rfl
  | some es =>
    simp only
    cases takeL es.flatten st.H with
    | none => rfl
    | some x => obtain ⟨us, H1, ds⟩ := x; simp [hz]
attribute [simp] opW_bslice
@[simp] theorem bsV_s (z len : Nat) (es : List (List TV)) : bsV st root z len K (some es) = bsV2 st root z len K (takeL es.flatten st.H) := nrfl rfl
@[simp] theorem bsV2_s (z len : Nat) (us : List TV) (H1 : Hp) (ds : List Path) : bsV2 st root z len K (some (us, H1, ds)) = (st.H root = [] ∧ 2 ≤ root ∧
          K ⟨.rf [(root, 0)] 0 len, deadU ds, setRoot H1 root [.sl true z (chunk z len us)], root :: ds.filterMap (fun p => p.head?.map (·.1)), some root, []⟩) := nrfl rfl

def loadV2 (st : St) (p : Path) (i f n : Nat) (agg : Bool) (K : Eff → Prop) : Option (List TV) → Prop
  | some cs => f + n ≤ cs.length ∧ (if agg then K (val st (.ag (refsFrom p i f ((cs.drop f).take n)))) else n = 1 ∧ K (val st ((refsFrom p i f ((cs.drop f).take 1)).headD .junk)))
  | none => False
def loadV (st : St) (agg : Bool) (n : Nat) (K : Eff → Prop) : TV → Prop
  | .pt p i f => loadV2 st p i f n agg K (rowAt st.H p i)
  | .po false cs => n ≤ cs.length ∧ (if agg then K (val st (.ag (cs.take n))) else n = 1 ∧ K (val st (cs.headD .junk)))
  | _ => False
@[simp] theorem opW_load (agg : Bool) (n : Nat) (a : TOpd) : opW P st root (.load agg n a) K = loadV st agg n K (a.ev st) := by
  unfold loadV loadV2; simp only [opW] <;> rfl
@[simp] theorem loadV_pt (agg : Bool) (n : Nat) (p : Path) (i f : Nat) : loadV st agg n K (.pt p i f) = loadV2 st p i f n agg K (rowAt st.H p i) := nrfl rfl
@[simp] theorem loadV_poT (n : Nat) (cs : List TV) : loadV st true n K (.po false cs) = (n ≤ cs.length ∧ K (val st (.ag (cs.take n)))) := nrfl rfl
@[simp] theorem loadV_poF (cs : List TV) : loadV st false 1 K (.po false cs) = (1 ≤ cs.length ∧ K (val st (cs.headD .junk))) := by simp [loadV]
@[simp] theorem loadV2_T (p : Path) (i f n : Nat) (cs : List TV) : loadV2 st p i f n true K (some cs) = (f + n ≤ cs.length ∧ K (val st (.ag (refsFrom p i f ((cs.drop f).take n))))) := nrfl rfl
@[simp] theorem loadV2_F (p : Path) (i f : Nat) (cs : List TV) : loadV2 st p i f 1 false K (some cs) = (f + 1 ≤ cs.length ∧ K (val st ((refsFrom p i f ((cs.drop f).take 1)).headD .junk))) := by simp [loadV2]

/-- Where a store may write. -/
def rowOk (H : Hp) (p : Path) (i m : Nat) : Prop := match rowAt H p i with | some cs => m ≤ cs.length | none => False
theorem rowOk_of {H : Hp} {p : Path} {i m : Nat} {cs : List TV} (h : rowAt H p i = some cs) (hm : m ≤ cs.length) : rowOk H p i m := by unfold rowOk; rw [h]; exact hm
def stU (ds : List Path) (p : Path) (i f n : Nat) (q : Path) : Bool := under ds q || under ((List.range n).map fun j => p ++ [(i, f + j)]) q
def storeV2 (p : Path) (i f n : Nat) (K : Eff → Prop) : Option (List TV × Hp × List Path) → Prop
  | some (us, H1, ds) => us.length = n ∧ rowOk H1 p i (f + n) ∧
          K { v := .junk, dead := some (stU ds p i f n), H := putL p i f us H1, wr := (p.head?.map (·.1)).toList ++ ds.filterMap (fun p => p.head?.map (·.1)) }
  | none => False
def storeV (n : Nat) (tk : Option (List TV × Hp × List Path)) (K : Eff → Prop) : TV → Prop
  | .pt p i f => storeV2 p i f n K tk
  | _ => False
@[simp] theorem opW_store (n : Nat) (a x : TOpd) : opW P st root (.store n a x) K = storeV n (takeL (cellsT (x.ev st)) st.H) K (a.ev st) := by
  unfold storeV storeV2 rowOk stU; simp only [opW] <;> rfl
@[simp] theorem storeV_pt (n : Nat) (tk : Option (List TV × Hp × List Path)) (p : Path) (i f : Nat) : storeV n tk K (.pt p i f) = storeV2 p i f n K tk := nrfl rfl
@[simp] theorem storeV2_s (p : Path) (i f n : Nat) (us : List TV) (H1 : Hp) (ds : List Path) : storeV2 p i f n K (some (us, H1, ds)) = (us.length = n ∧ rowOk H1 p i (f + n) ∧
          K ⟨.junk, some (stU ds p i f n), putL p i f us H1, (p.head?.map (·.1)).toList ++ ds.filterMap (fun p => p.head?.map (·.1)), none, []⟩) := nrfl rfl

def nilckV (st : St) (K : Eff → Prop) : TV → Prop
  | .pt p i f => K (val st (.pt p i f))
  | .po false cs => K (val st (.po false cs))
  | .fn g cs => K (val st (.fn g cs))
  | _ => False
@[simp] theorem opW_nilck (x : TOpd) : opW P st root (.nilck x) K = nilckV st K (x.ev st) := by unfold nilckV; simp only [opW] <;> rfl
@[simp] theorem nilckV_pt (p : Path) (i f : Nat) : nilckV st K (.pt p i f) = K (val st (.pt p i f)) := nrfl rfl
@[simp] theorem nilckV_po (cs : List TV) : nilckV st K (.po false cs) = K (val st (.po false cs)) := nrfl rfl
@[simp] theorem nilckV_fn (g : FuncId) (cs : List TV) : nilckV st K (.fn g cs) = K (val st (.fn g cs)) := nrfl rfl

theorem beq_bytes (s r : ByteArray) : (s == r) = decide (s = r) := by
  obtain ⟨a⟩ := s; obtain ⟨b⟩ := r
  rw [Bool.eq_iff_iff]
  show (a == b) = true ↔ _
  simp

@[simp] theorem opW_bin (o : BinOp) (x y : TOpd) : opW P st root (.bin o x y) K = binT o (x.ev st) (y.ev st) (valK st K) := nrfl rfl
section
variable {Kv : TV → Prop} (k : IntKind) (a b : Int)
@[simp] theorem binT_add : binT .add (.i k a) (.i k b) Kv = Kv (.i k (k.wrap (a + b))) := by simp [binT]
@[simp] theorem binT_sub : binT .sub (.i k a) (.i k b) Kv = Kv (.i k (k.wrap (a - b))) := by simp [binT]
@[simp] theorem binT_mul : binT .mul (.i k a) (.i k b) Kv = Kv (.i k (k.wrap (a * b))) := by simp [binT]
@[simp] theorem binT_quo : binT .quo (.i k a) (.i k b) Kv = (b ≠ 0 ∧ Kv (.i k (k.wrap (a.tdiv b)))) := by simp [binT]
@[simp] theorem binT_rem : binT .rem (.i k a) (.i k b) Kv = (b ≠ 0 ∧ Kv (.i k (a.tmod b))) := by simp [binT]
@[simp] theorem binT_and : binT .and (.i k a) (.i k b) Kv = Kv (.i k (k.wrap (BitVec.ofInt k.bits a &&& BitVec.ofInt k.bits b).toNat)) := by simp [binT]
@[simp] theorem binT_or : binT .or (.i k a) (.i k b) Kv = Kv (.i k (k.wrap (BitVec.ofInt k.bits a ||| BitVec.ofInt k.bits b).toNat)) := by simp [binT]
@[simp] theorem binT_xor : binT .xor (.i k a) (.i k b) Kv = Kv (.i k (k.wrap (BitVec.ofInt k.bits a ^^^ BitVec.ofInt k.bits b).toNat)) := by simp [binT]
@[simp] theorem binT_shl (k' : IntKind) : binT .shl (.i k a) (.i k' b) Kv = (0 ≤ b ∧ Kv (.i k (k.wrap (a * 2 ^ (min b.toNat k.bits))))) := by simp [binT]
@[simp] theorem binT_shr (k' : IntKind) : binT .shr (.i k a) (.i k' b) Kv = (0 ≤ b ∧ Kv (.i k (a.fdiv (2 ^ (min b.toNat k.bits))))) := by simp [binT]
@[simp] theorem binT_eql : binT .eql (.i k a) (.i k b) Kv = Kv (.b (decide (a = b))) := by simp only [binT, true_and]; rfl
@[simp] theorem binT_neq : binT .neq (.i k a) (.i k b) Kv = Kv (.b (!decide (a = b))) := by simp only [binT, true_and]; rfl
@[simp] theorem binT_lss : binT .lss (.i k a) (.i k b) Kv = Kv (.b (decide (a < b))) := by simp [binT]
@[simp] theorem binT_leq : binT .leq (.i k a) (.i k b) Kv = Kv (.b (decide (a ≤ b))) := by simp [binT]
@[simp] theorem binT_gtr : binT .gtr (.i k a) (.i k b) Kv = Kv (.b (decide (b < a))) := by simp [binT]
@[simp] theorem binT_geq : binT .geq (.i k a) (.i k b) Kv = Kv (.b (decide (b ≤ a))) := by simp [binT]
variable (s r : ByteArray)
@[simp] theorem binT_sadd : binT .add (.s s) (.s r) Kv = (s.size + r.size < 2 ^ 62 ∧ Kv (.s (s ++ r))) := nrfl rfl
@[simp] theorem binT_seql : binT .eql (.s s) (.s r) Kv = Kv (.b (decide (s = r))) := by
  simp only [binT]
  rw [← beq_toListBytes, beq_bytes]
@[simp] theorem binT_sneq : binT .neq (.s s) (.s r) Kv = Kv (.b (!decide (s = r))) := by
  simp only [binT]
  rw [← beq_toListBytes, beq_bytes]
variable (x y : Nat)
@[simp] theorem binT_fadd : binT .add (.f x) (.f y) Kv = Kv (.f (fltArith .add x y)) := nrfl rfl
@[simp] theorem binT_fsub : binT .sub (.f x) (.f y) Kv = Kv (.f (fltArith .sub x y)) := nrfl rfl
@[simp] theorem binT_fmul : binT .mul (.f x) (.f y) Kv = Kv (.f (fltArith .mul x y)) := nrfl rfl
@[simp] theorem binT_fquo : binT .quo (.f x) (.f y) Kv = Kv (.f (fltArith .quo x y)) := nrfl rfl
@[simp] theorem binT_feql : binT .eql (.f x) (.f y) Kv = Kv (.b (FloatKind.f64.format.order x y == some .eq)) := nrfl rfl
@[simp] theorem binT_fneq : binT .neq (.f x) (.f y) Kv = Kv (.b (FloatKind.f64.format.order x y != some .eq)) := nrfl rfl
@[simp] theorem binT_flss : binT .lss (.f x) (.f y) Kv = Kv (.b (FloatKind.f64.format.order x y == some .lt)) := nrfl rfl
@[simp] theorem binT_fleq : binT .leq (.f x) (.f y) Kv = Kv (.b (FloatKind.f64.format.order x y == some .lt || FloatKind.f64.format.order x y == some .eq)) := nrfl rfl
@[simp] theorem binT_fgtr : binT .gtr (.f x) (.f y) Kv = Kv (.b (FloatKind.f64.format.order x y == some .gt)) := nrfl rfl
@[simp] theorem binT_fgeq : binT .geq (.f x) (.f y) Kv = Kv (.b (FloatKind.f64.format.order x y == some .gt || FloatKind.f64.format.order x y == some .eq)) := nrfl rfl
end

def eqsV (st : St) (neg : Bool) (x y : Bool) (K : Eff → Prop) : Option Bool → Prop
  | some r => x = y ∧ K (val st (.b (r ^^ neg)))
  | none => False
@[simp] theorem opW_eqsT (neg : Bool) (ks : List EK) (x y : TOpd) : opW P st root (.eqs neg true ks x y) K = eqsV st neg (isAg (x.ev st) && isAg (y.ev st)) true K (eqL ks (cellsT (x.ev st)) (cellsT (y.ev st))) := by
  unfold eqsV; simp only [opW]
  cases eqL ks (cellsT (x.ev st)) (cellsT (y.ev st)) <;> simp [and_assoc]
@[simp] theorem opW_eqsF (neg : Bool) (ks : List EK) (x y : TOpd) : opW P st root (.eqs neg false ks x y) K = eqsV st neg (isAg (x.ev st) || isAg (y.ev st)) false K (eqL ks (cellsT (x.ev st)) (cellsT (y.ev st))) := by
  unfold eqsV; simp only [opW]
  cases eqL ks (cellsT (x.ev st)) (cellsT (y.ev st)) <;> simp [and_assoc]
@[simp] theorem eqsV_sF (x : Bool) (r : Bool) : eqsV st false x x K (some r) = K (val st (.b r)) := by simp [eqsV]
@[simp] theorem eqsV_sT (x : Bool) (r : Bool) : eqsV st true x x K (some r) = K (val st (.b (!r))) := by simp [eqsV]
@[simp] theorem eqL_nil : eqL [] [] [] = some true := nrfl rfl
@[simp] theorem eqL_b (ks : List EK) (x y : Bool) (us vs : List TV) : eqL (.b :: ks) (.b x :: us) (.b y :: vs) = (eqL ks us vs).bind fun r => some ((x == y) && r) := nrfl rfl
@[simp] theorem eqL_i (ks : List EK) (k : IntKind) (x y : Int) (us vs : List TV) : eqL (.i :: ks) (.i k x :: us) (.i k y :: vs) = (eqL ks us vs).bind fun r => some (decide (x = y) && r) := by simp [eqL, eqT]; rfl
@[simp] theorem eqL_s (ks : List EK) (x y : ByteArray) (us vs : List TV) : eqL (.s :: ks) (.s x :: us) (.s y :: vs) = (eqL ks us vs).bind fun r => some (decide (x = y) && r) := by
  simp only [eqL, eqT, Option.bind_some]
  rw [← beq_toListBytes, beq_bytes]

def eqpV (st : St) (neg : Bool) (K : Eff → Prop) : TV → TV → Prop
  | .np, .np => K (val st (.b (!neg)))
  | .np, .pt .. | .np, .po false _ | .pt .., .np | .po false _, .np => K (val st (.b neg))
  | _, _ => False
@[simp] theorem opW_eqp (neg : Bool) (x y : TOpd) : opW P st root (.eqp neg x y) K = eqpV st neg K (x.ev st) (y.ev st) := by unfold eqpV; simp only [opW]; rfl
@[simp] theorem eqpV_nn (neg : Bool) : eqpV st neg K .np .np = K (val st (.b (!neg))) := nrfl rfl
@[simp] theorem eqpV_np (neg : Bool) (p : Path) (i f : Nat) : eqpV st neg K .np (.pt p i f) = K (val st (.b neg)) := nrfl rfl
@[simp] theorem eqpV_pn (neg : Bool) (p : Path) (i f : Nat) : eqpV st neg K (.pt p i f) .np = K (val st (.b neg)) := nrfl rfl
@[simp] theorem eqpV_no (neg : Bool) (cs : List TV) : eqpV st neg K .np (.po false cs) = K (val st (.b neg)) := nrfl rfl
@[simp] theorem eqpV_on (neg : Bool) (cs : List TV) : eqpV st neg K (.po false cs) .np = K (val st (.b neg)) := nrfl rfl

def unV (st : St) (K : Eff → Prop) : UnOp → TV → Prop
  | .not, .b x => K (val st (.b (!x)))
  | .neg, .i k n => K (val st (.i k (k.wrap (0 - n))))
  | .neg, .f x => K (val st (.f (canon (Op.negFloat .f64 x))))
  | _, _ => False
@[simp] theorem opW_un (o : UnOp) (x : TOpd) : opW P st root (.un o x) K = unV st K o (x.ev st) := by unfold unV; simp only [opW]; rfl
@[simp] theorem unV_not (x : Bool) : unV st K .not (.b x) = K (val st (.b (!x))) := nrfl rfl
@[simp] theorem unV_neg (k : IntKind) (n : Int) : unV st K .neg (.i k n) = K (val st (.i k (k.wrap (0 - n)))) := nrfl rfl
@[simp] theorem unV_negf (x : Nat) : unV st K .neg (.f x) = K (val st (.f (canon (Op.negFloat .f64 x)))) := nrfl rfl

def toIntV2 (st : St) (k : IntKind) (K : Eff → Prop) : Option Int → Prop
  | some n => k.min ≤ n ∧ n ≤ k.max ∧ K (val st (.i k n))
  | none => False
def toIntV (st : St) (k : IntKind) (K : Eff → Prop) : TV → Prop
  | .i _ n => K (val st (.i k (k.wrap n)))
  | .f b => toIntV2 st k K ((FloatKind.f64.decode b).toInt .zero)
  | _ => False
@[simp] theorem opW_toInt (k : IntKind) (x : TOpd) : opW P st root (.toInt k x) K = toIntV st k K (x.ev st) := by
  unfold toIntV toIntV2; simp only [opW] <;> rfl
@[simp] theorem toIntV_i (k k' : IntKind) (n : Int) : toIntV st k K (.i k' n) = K (val st (.i k (k.wrap n))) := nrfl rfl
@[simp] theorem toIntV_f (k : IntKind) (b : Nat) : toIntV st k K (.f b) = toIntV2 st k K ((FloatKind.f64.decode b).toInt .zero) := nrfl rfl
@[simp] theorem toIntV2_s (k : IntKind) (n : Int) : toIntV2 st k K (some n) = (k.min ≤ n ∧ n ≤ k.max ∧ K (val st (.i k n))) := nrfl rfl

def toFV (st : St) (K : Eff → Prop) : TV → Prop
  | .i _ n => K (val st (.f (canon (FloatKind.f64.nearest n))))
  | .f b => K (val st (.f b))
  | _ => False
@[simp] theorem opW_toF (x : TOpd) : opW P st root (.toF x) K = toFV st K (x.ev st) := by unfold toFV; simp only [opW] <;> rfl
@[simp] theorem toFV_i (k : IntKind) (n : Int) : toFV st K (.i k n) = K (val st (.f (canon (FloatKind.f64.nearest n)))) := nrfl rfl
@[simp] theorem toFV_f (b : Nat) : toFV st K (.f b) = K (val st (.f b)) := nrfl rfl

def toSV (st : St) (K : Eff → Prop) : Option (List UInt8) → Prop
  | some bs => K (val st (.s ⟨bs.toArray⟩))
  | none => False
@[simp] theorem opW_toS (x : TOpd) : opW P st root (.toS x) K = toSV st K ((elemsOf st.H (x.ev st)).bind bytesT) := nrfl rfl
@[simp] theorem toSV_s (bs : List UInt8) : toSV st K (some bs) = K (val st (.s ⟨bs.toArray⟩)) := nrfl rfl

@[simp] theorem opW_mkfn (g : FuncId) (caps : List TOpd) : opW P st root (.mkfn g caps) K = K (val st (.fn g (caps.map (·.ev st)))) := nrfl rfl

def mksV (st : St) (root z bytes : Nat) (zero : List TV) (K : Eff → Prop) : TV → TV → Prop
  | .i .i64 l, .i .i64 c => 0 ≤ l ∧ l = c ∧ bytes * l ≤ 2 ^ 47 ∧ st.H root = [] ∧ 2 ≤ root ∧ zero.length = z ∧ zero.all zeroOk = true ∧
        K { v := .rf [(root, 0)] 0 l.toNat, dead := none, H := setRoot st.H root [.sl true z (List.replicate l.toNat zero)], wr := [root], nr := some root }
  | _, _ => False
@[simp] theorem opW_mkslice (z bytes : Nat) (zero : List TV) (l c : TOpd) : opW P st root (.mkslice z bytes zero l c) K = mksV st root z bytes zero K (l.ev st) (c.ev st) := by unfold mksV; simp only [opW]; rfl
@[simp] theorem mksV_i (z bytes : Nat) (zero : List TV) (l : Int) : mksV st root z bytes zero K (.i .i64 l) (.i .i64 l) = (0 ≤ l ∧ bytes * l ≤ 2 ^ 47 ∧ st.H root = [] ∧ 2 ≤ root ∧ zero.length = z ∧ zero.all zeroOk = true ∧
        K ⟨.rf [(root, 0)] 0 l.toNat, none, setRoot st.H root [.sl true z (List.replicate l.toNat zero)], [root], some root, []⟩) := by simp [mksV]

/-- Bounds of a slice expression. -/
def bndV (K : Int → Prop) : TV → Prop
  | .i _ n => K n
  | _ => False
@[simp] theorem bndV_i (Ki : Int → Prop) (k : IntKind) (n : Int) : bndV Ki (.i k n) = Ki n := nrfl rfl
@[simp] theorem optB_none (d : Int) (Ki : Int → Prop) : optB st d none Ki = Ki d := nrfl rfl
@[simp] theorem optB_some (d : Int) (x : TOpd) (Ki : Int → Prop) : optB st d (some x) Ki = bndV Ki (x.ev st) := by unfold bndV; simp only [optB]; rfl
def slcS (st : St) (a : ByteArray) (K : Eff → Prop) (l h : Int) : Prop := 0 ≤ l ∧ l ≤ h ∧ h ≤ a.size ∧ K (val st (.s (a.extract l.toNat h.toNat)))
def slcR (st : St) (z : Nat) (es : List (List TV)) (K : Eff → Prop) (l h : Int) : Prop := 0 ≤ l ∧ l ≤ h ∧ h ≤ es.length ∧ K (val st (.sl false z ((es.drop l.toNat).take (h.toNat - l.toNat))))
def slcO (st : St) (p : Path) (off len : Nat) (K : Eff → Prop) (l h : Int) : Prop := 0 ≤ l ∧ l ≤ h ∧ h ≤ len ∧ K (val st (.rf p (offE (off + l.toNat) (h.toNat - l.toNat)) (h.toNat - l.toNat)))
def slcN (st : St) (z : Nat) (K : Eff → Prop) (l h : Int) : Prop := l = 0 ∧ h = 0 ∧ K (val st (.sl true z []))
/-- Two bounds, one behind the other, told. -/
def bnd2 (st : St) (d1 d2 : Int) (lo hi : Option TOpd) (Kb : Int → Int → Prop) : Prop := optB st d1 lo fun l => optB st d2 hi (Kb l)
@[simp] theorem bnd2_nn (d1 d2 : Int) (Kb : Int → Int → Prop) : bnd2 st d1 d2 none none Kb = Kb d1 d2 := nrfl rfl
@[simp] theorem bnd2_ns (d1 d2 : Int) (y : TOpd) (Kb : Int → Int → Prop) : bnd2 st d1 d2 none (some y) Kb = bndV (Kb d1) (y.ev st) := by simp [bnd2]
def bndK (Kb : Int → Int → Prop) (d : Int) (l : Int) : Prop := Kb l d
@[simp] theorem bndK_app (Kb : Int → Int → Prop) (d l : Int) : bndK Kb d l = Kb l d := nrfl rfl
@[simp] theorem bnd2_sn (d1 d2 : Int) (x : TOpd) (Kb : Int → Int → Prop) : bnd2 st d1 d2 (some x) none Kb = bndV (bndK Kb d2) (x.ev st) := by unfold bnd2 bndK; simp only [optB_some, optB_none]
def bndW (Kb : Int → Int → Prop) (y : TV) (l : Int) : Prop := bndV (Kb l) y
@[simp] theorem bndW_app (Kb : Int → Int → Prop) (y : TV) (l : Int) : bndW Kb y l = bndV (Kb l) y := nrfl rfl
@[simp] theorem bnd2_ss (d1 d2 : Int) (x y : TOpd) (Kb : Int → Int → Prop) : bnd2 st d1 d2 (some x) (some y) Kb = bndV (bndW Kb (y.ev st)) (x.ev st) := by unfold bnd2 bndW; simp only [optB_some]
def sliceV (st : St) (z : Nat) (lo hi : Option TOpd) (K : Eff → Prop) : TV → Prop
  | .sl false z' es => z' = z ∧ bnd2 st 0 es.length lo hi (slcR st z' es K)
  | .sl true z' [] => bnd2 st 0 0 lo hi (slcN st z' K)
  | .rf p off len => (shapeAt st.H p).map (fun s => s.2.1) = some z ∧ bnd2 st 0 len lo hi (slcO st p off len K)
  | _ => False
def sliceSV (st : St) (lo hi : Option TOpd) (K : Eff → Prop) : TV → Prop
  | .s a => bnd2 st 0 a.size lo hi (slcS st a K)
  | _ => False
@[simp] theorem opW_sliceS (z : Nat) (x : TOpd) (lo hi : Option TOpd) : opW P st root (.slice true z x lo hi) K = sliceSV st lo hi K (x.ev st) := by unfold sliceSV; simp only [opW]; rfl
@[simp] theorem opW_slice (z : Nat) (x : TOpd) (lo hi : Option TOpd) : opW P st root (.slice false z x lo hi) K = sliceV st z lo hi K (x.ev st) := by unfold sliceV; simp only [opW]; rfl
@[simp] theorem sliceSV_s (lo hi : Option TOpd) (a : ByteArray) : sliceSV st lo hi K (.s a) = bnd2 st 0 a.size lo hi (slcS st a K) := nrfl rfl
@[simp] theorem sliceV_r (z : Nat) (lo hi : Option TOpd) (es : List (List TV)) : sliceV st z lo hi K (.sl false z es) = bnd2 st 0 es.length lo hi (slcR st z es K) := by simp [sliceV]
@[simp] theorem sliceV_n (z z' : Nat) (lo hi : Option TOpd) : sliceV st z lo hi K (.sl true z' []) = bnd2 st 0 0 lo hi (slcN st z' K) := nrfl rfl
@[simp] theorem sliceV_o (z : Nat) (lo hi : Option TOpd) (p : Path) (off len : Nat) : sliceV st z lo hi K (.rf p off len) = ((shapeAt st.H p).map (fun s => s.2.1) = some z ∧ bnd2 st 0 len lo hi (slcO st p off len K)) := nrfl rfl
@[simp] theorem slcS_app (a : ByteArray) (l h : Int) : slcS st a K l h = (0 ≤ l ∧ l ≤ h ∧ h ≤ a.size ∧ K (val st (.s (a.extract l.toNat h.toNat)))) := nrfl rfl
@[simp] theorem slcR_app (z : Nat) (es : List (List TV)) (l h : Int) : slcR st z es K l h = (0 ≤ l ∧ l ≤ h ∧ h ≤ es.length ∧ K (val st (.sl false z ((es.drop l.toNat).take (h.toNat - l.toNat))))) := nrfl rfl
@[simp] theorem slcO_app (p : Path) (off len : Nat) (l h : Int) : slcO st p off len K l h = (0 ≤ l ∧ l ≤ h ∧ h ≤ len ∧ K (val st (.rf p (offE (off + l.toNat) (h.toNat - l.toNat)) (h.toNat - l.toNat)))) := nrfl rfl
@[simp] theorem slcN_app (z : Nat) (l h : Int) : slcN st z K l h = (l = 0 ∧ h = 0 ∧ K (val st (.sl true z []))) := nrfl rfl

def faddrV2 (st : St) (off n : Nat) (p : Path) (i f : Nat) (K : Eff → Prop) : Option (List TV) → Prop
  | some cs => f + off + n ≤ cs.length ∧ K (val st (.pt p i (f + off)))
  | none => False
def faddrV (st : St) (off n : Nat) (K : Eff → Prop) : TV → Prop
  | .pt p i f => faddrV2 st off n p i f K (rowAt st.H p i)
  | .po false cs => off + n ≤ cs.length ∧ K (val st (.po false ((cs.drop off).take n)))
  | _ => False
@[simp] theorem opW_faddr (off n : Nat) (x : TOpd) : opW P st root (.faddr off n x) K = faddrV st off n K (x.ev st) := by unfold faddrV faddrV2; simp only [opW] <;> rfl
@[simp] theorem faddrV_pt (off n : Nat) (p : Path) (i f : Nat) : faddrV st off n K (.pt p i f) = faddrV2 st off n p i f K (rowAt st.H p i) := nrfl rfl
@[simp] theorem faddrV_po (off n : Nat) (cs : List TV) : faddrV st off n K (.po false cs) = (off + n ≤ cs.length ∧ K (val st (.po false ((cs.drop off).take n)))) := nrfl rfl
@[simp] theorem faddrV2_s (off n : Nat) (p : Path) (i f : Nat) (cs : List TV) : faddrV2 st off n p i f K (some cs) = (f + off + n ≤ cs.length ∧ K (val st (.pt p i (f + off)))) := nrfl rfl

def fldV (st : St) (off n : Nat) (agg : Bool) (K : Eff → Prop) : TV → Prop
  | .ag cs => off + n ≤ cs.length ∧ (if agg then K (val st (.ag ((cs.drop off).take n))) else n = 1 ∧ K (val st (((cs.drop off).take 1).headD .junk)))
  | _ => False
@[simp] theorem opW_fld (agg : Bool) (off n : Nat) (x : TOpd) : opW P st root (.fld agg off n x) K = fldV st off n agg K (x.ev st) := by unfold fldV; simp only [opW] <;> rfl
@[simp] theorem fldV_T (off n : Nat) (cs : List TV) : fldV st off n true K (.ag cs) = (off + n ≤ cs.length ∧ K (val st (.ag ((cs.drop off).take n)))) := nrfl rfl
@[simp] theorem fldV_F (off : Nat) (cs : List TV) : fldV st off 1 false K (.ag cs) = (off + 1 ≤ cs.length ∧ K (val st (((cs.drop off).take 1).headD .junk))) := by simp [fldV]

def iaddrV2 (st : St) (z z' : Nat) (K : Eff → Prop) : Option (List TV) → Prop
  | some e => z' = z ∧ K (val st (.po false e))
  | none => False
def iaddrV (st : St) (z : Nat) (K : Eff → Prop) : TV → TV → Prop
  | .sl false z' es, .i _ n => iaddrV2 st z z' K (if 0 ≤ n then es[n.toNat]? else none)
  | .rf p off len, .i _ n => 0 ≤ n ∧ n < len ∧ (shapeAt st.H p).map (fun s => s.2.1) = some z ∧ K (val st (.pt p (off + n.toNat) 0))
  | _, _ => False
@[simp] theorem opW_iaddr (z : Nat) (x i : TOpd) : opW P st root (.iaddr z x i) K = iaddrV st z K (x.ev st) (i.ev st) := by unfold iaddrV iaddrV2; simp only [opW]; rfl
@[simp] theorem iaddrV_r (z z' : Nat) (es : List (List TV)) (k : IntKind) (n : Int) : iaddrV st z K (.sl false z' es) (.i k n) = iaddrV2 st z z' K (if 0 ≤ n then es[n.toNat]? else none) := nrfl rfl
@[simp] theorem iaddrV_o (z : Nat) (p : Path) (off len : Nat) (k : IntKind) (n : Int) : iaddrV st z K (.rf p off len) (.i k n) = (0 ≤ n ∧ n < len ∧ (shapeAt st.H p).map (fun s => s.2.1) = some z ∧ K (val st (.pt p (off + n.toNat) 0))) := nrfl rfl
@[simp] theorem iaddrV2_s (z : Nat) (e : List TV) : iaddrV2 st z z K (some e) = K (val st (.po false e)) := by simp [iaddrV2]

def ixV2 (st : St) (K : Eff → Prop) : Option UInt8 → Prop
  | some b => K (val st (.i .u8 b.toNat))
  | none => False
def ixV (st : St) (K : Eff → Prop) : TV → TV → Prop
  | .s a, .i _ n => ixV2 st K (if 0 ≤ n then a[n.toNat]? else none)
  | _, _ => False
@[simp] theorem opW_ix (x i : TOpd) : opW P st root (.ix x i) K = ixV st K (x.ev st) (i.ev st) := by unfold ixV ixV2; simp only [opW]; rfl
@[simp] theorem ixV_s (a : ByteArray) (k : IntKind) (n : Int) : ixV st K (.s a) (.i k n) = ixV2 st K (if 0 ≤ n then a[n.toNat]? else none) := nrfl rfl
@[simp] theorem ixV2_s (b : UInt8) : ixV2 st K (some b) = K (val st (.i .u8 b.toNat)) := nrfl rfl

def optV (st : St) (K : Eff → Prop) : Option TV → Prop
  | some v => K (val st v)
  | none => False
def extV (st : St) (k : Nat) (K : Eff → Prop) : TV → Prop
  | .tu vs => optV st K vs[k]?
  | _ => False
@[simp] theorem opW_ext (k : Nat) (x : TOpd) : opW P st root (.ext k x) K = extV st k K (x.ev st) := by unfold extV optV; simp only [opW] <;> rfl
@[simp] theorem extV_tu (k : Nat) (vs : List TV) : extV st k K (.tu vs) = optV st K vs[k]? := nrfl rfl
@[simp] theorem optV_s (v : TV) : optV st K (some v) = K (val st v) := nrfl rfl

def lenV (st : St) (K : Eff → Prop) : Option Nat → Prop
  | some n => K (val st (.i .i64 n))
  | none => False
@[simp] theorem opW_len (str : Bool) (x : TOpd) : opW P st root (.len str x) K = lenV st K (lenT str (x.ev st)) := nrfl rfl
@[simp] theorem lenV_s (n : Nat) : lenV st K (some n) = K (val st (.i .i64 n)) := nrfl rfl
@[simp] theorem lenT_r (z : Nat) (es : List (List TV)) : lenT false (.sl false z es) = some es.length := nrfl rfl
@[simp] theorem lenT_n (z : Nat) : lenT false (.sl true z []) = some 0 := nrfl rfl
@[simp] theorem lenT_o (p : Path) (off len : Nat) : lenT false (.rf p off len) = some len := nrfl rfl
@[simp] theorem lenT_s (a : ByteArray) : lenT true (.s a) = some a.size := nrfl rfl

def maxiV (st : St) (K : Eff → Prop) : TV → TV → Prop
  | .i k a, .i _ b => K (val st (.i k (if b > a then b else a)))
  | _, _ => False
@[simp] theorem opW_maxi (x y : TOpd) : opW P st root (.maxi x y) K = maxiV st K (x.ev st) (y.ev st) := by unfold maxiV; simp only [opW]; rfl
@[simp] theorem maxiV_i (k k' : IntKind) (a b : Int) : maxiV st K (.i k a) (.i k' b) = K (val st (.i k (max a b))) := by
  simp only [maxiV]
  have : (if b > a then b else a) = max a b := by rw [Int.max_def]; split <;> split <;> omega
  rw [this]

def appV2 (st : St) (root z bytes : Nat) (z2 : Nat) (es2 : List (List TV)) (d1 : List Path) (K : Eff → Prop) : Option (TV × Hp × List Path) → Prop
  | some (.sl true z' es, H2, d2) => z' = z ∧ z2 = z ∧ freeR H2 root = true ∧ 2 ≤ root ∧ bytes * (es.length + es2.length) ≤ 2 ^ 47 ∧
          K { v := .rf [(root, 0)] 0 (es.length + es2.length), dead := deadU (d1 ++ d2), H := setRoot H2 root [.sl true z (es ++ es2)], wr := root :: (d1 ++ d2).filterMap (fun p => p.head?.map (·.1)), nr := some root }
  | _ => False
def appV (st : St) (root z bytes : Nat) (s : TV) (K : Eff → Prop) : Option (Nat × List (List TV) × Hp × List Path) → Prop
  | some (z2, es2, H1, d1) => appV2 st root z bytes z2 es2 d1 K (take1 H1 s)
  | none => False
@[simp] theorem opW_app (z bytes : Nat) (s x : TOpd) : opW P st root (.app z bytes s x) K = appV st root z bytes (s.ev st) K (srcT st.H (x.ev st)) := by
  unfold appV appV2; simp only [opW, deadU]; rfl
@[simp] theorem appV_s (z bytes : Nat) (s : TV) (z2 : Nat) (es2 : List (List TV)) (H1 : Hp) (d1 : List Path) : appV st root z bytes s K (some (z2, es2, H1, d1)) = appV2 st root z bytes z2 es2 d1 K (take1 H1 s) := nrfl rfl
@[simp] theorem appV2_s (z bytes : Nat) (es2 es : List (List TV)) (H2 : Hp) (d1 d2 : List Path) : appV2 st root z bytes z es2 d1 K (some (.sl true z es, H2, d2)) = (freeR H2 root = true ∧ 2 ≤ root ∧ bytes * (es.length + es2.length) ≤ 2 ^ 47 ∧
          K ⟨.rf [(root, 0)] 0 (es.length + es2.length), deadU (d1 ++ d2), setRoot H2 root [.sl true z (es ++ es2)], root :: (d1 ++ d2).filterMap (fun p => p.head?.map (·.1)), some root, []⟩) := by
  simp [appV2]

@[simp] theorem freeR_eq (H : Hp) (r : Nat) : freeR H r = (H r).all isJ := nrfl rfl
attribute [simp] isJ
@[simp] theorem opW_call (g : FuncId) (args : List (TOpd × Nat)) : opW P st root (.call g args) K = callW P st root g (args.map fun x => (x.1.ev st, x.2)) K := nrfl rfl
def callvV (P : Program) (st : St) (root : Nat) (as : List (TV × Nat)) (K : Eff → Prop) : TV → Prop
  | .fn g caps => callable P g = true ∧ callW P st root g (as ++ caps.map fun c => (c, 0)) K
  | _ => False
@[simp] theorem opW_callv (f : TOpd) (args : List (TOpd × Nat)) : opW P st root (.callv f args) K = callvV P st root (args.map fun x => (x.1.ev st, x.2)) K (f.ev st) := by unfold callvV; simp only [opW] <;> rfl
@[simp] theorem callvV_fn (as : List (TV × Nat)) (g : FuncId) (caps : List TV) : callvV P st root as K (.fn g caps) = (callable P g = true ∧ callW P st root g (as ++ caps.map fun c => (c, 0)) K) := nrfl rfl
end

/-! ### taking and looking -/
theorem take1_rf (hs : HL) (r j : Nat) (t : Path) (off len : Nat) : take1 (lk hs) (.rf ((r, j) :: t) off len) = match cellAt (lk hs) ((r, j) :: t) with
    | some (.sl true z es) => some (.sl true z ((es.drop off).take len), modH (lk hs) (fun _ => .junk) ((r, j) :: t), [(r, j) :: t])
    | _ => none := rfl

def cutV1 (H : Hp) (p : Path) (off len : Nat) : Option TV → Option (TV × Hp × List Path)
  | some (.sl true z es) => some (.sl true z ((es.drop off).take len), modH H (fun _ => .junk) p, [p])
  | _ => none
def cutP1 (H : Hp) (p : Path) : Option TV → Option (TV × Hp × List Path)
  | some (.po true cs) => some (.po true cs, modH H (fun _ => .junk) p, [p])
  | _ => none
section
variable {H : Hp}
@[simp] theorem take1_o (p : Path) (off len : Nat) : take1 H (.rf p off len) = cutV1 H p off len (cellAt H p) := by unfold cutV1; simp only [take1]; rfl
@[simp] theorem take1_p (p : Path) : take1 H (.pt p 0 0) = cutP1 H p (cellAt H p) := by unfold cutP1; simp only [take1]; rfl
@[simp] theorem cutV1_s (p : Path) (off len z : Nat) (es : List (List TV)) : cutV1 H p off len (some (.sl true z es)) = some (.sl true z ((es.drop off).take len), modH H (fun _ => .junk) p, [p]) := nrfl rfl
@[simp] theorem cutP1_s (p : Path) (cs : List TV) : cutP1 H p (some (.po true cs)) = some (.po true cs, modH H (fun _ => .junk) p, [p]) := nrfl rfl
@[simp] theorem take1_n (z : Nat) : take1 H (.sl true z []) = some (.sl true z [], H, []) := nrfl rfl
@[simp] theorem take1_i (k : IntKind) (n : Int) : take1 H (.i k n) = some (.i k n, H, []) := nrfl rfl
@[simp] theorem take1_b (x : Bool) : take1 H (.b x) = some (.b x, H, []) := nrfl rfl
@[simp] theorem take1_f (x : Nat) : take1 H (.f x) = some (.f x, H, []) := nrfl rfl
@[simp] theorem take1_s (x : ByteArray) : take1 H (.s x) = some (.s x, H, []) := nrfl rfl
@[simp] theorem take1_np : take1 H .np = some (.np, H, []) := nrfl rfl
@[simp] theorem take1_r (z : Nat) (es : List (List TV)) : take1 H (.sl false z es) = some (.sl false z es, H, []) := nrfl rfl
@[simp] theorem take1_q (cs : List TV) : take1 H (.po false cs) = some (.po false cs, H, []) := nrfl rfl

def takeL2 (cs : List TV) : Option (TV × Hp × List Path) → Option (List TV × Hp × List Path)
  | some (u, H1, d) => (takeL cs H1).bind fun y => some (u :: y.1, y.2.1, d ++ y.2.2)
  | none => none
@[simp] theorem takeL_nil' : takeL [] H = some ([], H, []) := nrfl rfl
@[simp] theorem takeL_cons' (c : TV) (cs : List TV) : takeL (c :: cs) H = takeL2 cs (take1 H c) := by
  unfold takeL2; simp only [takeL]; cases take1 H c <;> rfl
@[simp] theorem takeL2_s (cs : List TV) (u : TV) (H1 : Hp) (d : List Path) : takeL2 cs (some (u, H1, d)) = (takeL cs H1).bind fun y => some (u :: y.1, y.2.1, d ++ y.2.2) := nrfl rfl

attribute [simp] rowAt rows shapeAt shape cellAt down kid modd upk putL killT killL
@[simp] theorem under_nil (q : Path) : under [] q = false := nrfl rfl
@[simp] theorem under_cons (p : Path) (ds : List Path) (q : Path) : under (p :: ds) q = (p.isPrefixOf q || under ds q) := nrfl rfl
@[simp] theorem stU_app (ds : List Path) (p : Path) (i f n : Nat) (q : Path) : stU ds p i f n q = (under ds q || under ((List.range n).map fun j => p ++ [(i, f + j)]) q) := nrfl rfl
@[simp] theorem beq_pr (a b c d : Nat) : ((a, b) == (c, d)) = (decide (a = c) && decide (b = d)) := nrfl rfl
@[simp] theorem range1 : List.range 1 = [0] := nrfl rfl
@[simp] theorem range2 : List.range 2 = [0, 1] := nrfl rfl
@[simp] theorem range3 : List.range 3 = [0, 1, 2] := nrfl rfl
@[simp] theorem range4 : List.range 4 = [0, 1, 2, 3] := nrfl rfl
end
end Go.Proofs.YtloodkhdngipbaaT
