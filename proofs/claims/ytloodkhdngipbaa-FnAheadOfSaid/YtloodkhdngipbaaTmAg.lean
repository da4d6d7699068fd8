/- TM, part Ag: calls and ends as rules for 'simp'. -/
import Derived.Test.YtloodkhdngipbaaTmAf
namespace Go.Proofs.YtloodkhdngipbaaT
set_option linter.unusedVariables false
set_option linter.unusedSimpArgs false
open Go

section
variable {P : Program} {st : St} {root : Nat} {K : Eff → Prop}

/-! ### calls -/
def underB (ds : List Path) (bs : List (Option Path)) (q : Path) : Bool := under ds q && !(bs.any (· == some q))
@[simp] theorem underB_app (ds : List Path) (bs : List (Option Path)) (q : Path) : underB ds bs q = (under ds q && !(bs.any (· == some q))) := nrfl rfl
def deadC (ds : List Path) (bs : List (Option Path)) : Option (Path → Bool) := if ds = [] then none else some (underB ds bs)
@[simp] theorem deadC_nil (bs : List (Option Path)) : deadC [] bs = none := nrfl rfl
@[simp] theorem deadC_cons (p : Path) (ds : List Path) (bs : List (Option Path)) : deadC (p :: ds) bs = some (underB (p :: ds) bs) := nrfl rfl

def callE (root : Nat) (res : List TV) (outs : List (Option TV)) (H1 : Hp) (ds : List Path) (ps : List (Option Path)) (K : Eff → Prop) : Bool → Prop
  | true => K ⟨resT (refTu root 0 res), deadC ds (backsOf ps outs), setRoot (putBack H1 (backsOf ps outs) (outsT outs)) root (res.flatMap cellsT), root :: prs ds, some root, []⟩
  | false => K ⟨resT res, deadC ds (backsOf ps outs), putBack H1 (backsOf ps outs) (outsT outs), prs ds, none, []⟩
@[simp] theorem callE_t (res : List TV) (outs : List (Option TV)) (H1 : Hp) (ds : List Path) (ps : List (Option Path)) :
    callE root res outs H1 ds ps K true = K ⟨resT (refTu root 0 res), deadC ds (backsOf ps outs), setRoot (putBack H1 (backsOf ps outs) (outsT outs)) root (res.flatMap cellsT), root :: prs ds, some root, []⟩ := nrfl rfl
@[simp] theorem callE_f (res : List TV) (outs : List (Option TV)) (H1 : Hp) (ds : List Path) (ps : List (Option Path)) :
    callE root res outs H1 ds ps K false = K ⟨resT res, deadC ds (backsOf ps outs), putBack H1 (backsOf ps outs) (outsT outs), prs ds, none, []⟩ := nrfl rfl

/-- What follows a call, once a promise is chosen. -/
def callK (st : St) (root : Nat) (H1 : Hp) (ds : List Path) (ps : List (Option Path)) (K : Eff → Prop) (res : List TV) (outs : List (Option TV)) : Prop :=
  backOk st.H H1 ps outs ∧ callE root res outs H1 ds ps K ((res.flatMap cellsT).any isOwn)
@[simp] theorem callK_app (H1 : Hp) (ds : List Path) (ps : List (Option Path)) (res : List TV) (outs : List (Option TV)) :
    callK st root H1 ds ps K res outs = (backOk st.H H1 ps outs ∧ callE root res outs H1 ds ps K ((res.flatMap cellsT).any isOwn)) := nrfl rfl

/-- A call whose arguments are told: some promise serves. -/
def callX (P : Program) (g : FuncId) (ms : List Mode) (nn : List Bool) (args : List TV) (ro : Bool) (C : List TV → List (Option TV) → Prop) : Prop :=
  ∃ al res outs, ContractA P nn al g ms args res outs ∧ (al = true → ro = false) ∧ C res outs
theorem callX_nil {al ro : Bool} {g : FuncId} {ms : List Mode} {nn : List Bool} {args res : List TV} {outs : List (Option TV)} {C : List TV → List (Option TV) → Prop} (h : ContractA P nn al g ms args res outs) (hal : al = false ∨ ro = false) (hC : C res outs) : callX P g ms nn args ro C :=
  ⟨al, res, outs, h, fun h => by rcases hal with h' | h' <;> simp_all, hC⟩
theorem callX_of {al ro : Bool} {g : FuncId} {ms : List Mode} {nn : List Bool} {args res : List TV} {outs : List (Option TV)} {C : List TV → List (Option TV) → Prop} (h : Contract P al g ms args res outs) (hal : al = false ∨ ro = false) (hC : C res outs) : callX P g ms nn args ro C :=
  callX_nil (h.toA nn) hal hC

def callB (P : Program) (g : FuncId) (ms : List Mode) (nn : List Bool) (C : List TV → List (Option TV) → Prop) : Option (List TV × Bool) → Prop
  | some (args, ro) => callX P g ms nn args ro C
  | none => False
@[simp] theorem callB_s (g : FuncId) (ms : List Mode) (nn : List Bool) (C : List TV → List (Option TV) → Prop) (args : List TV) (ro : Bool) : callB P g ms nn C (some (args, ro)) = callX P g ms nn args ro C := nrfl rfl
def callA (P : Program) (st : St) (root : Nat) (g : FuncId) (ms : List Mode) (as : List (TV × Nat)) (K : Eff → Prop) : Option (List TV × Hp × List Path × List (Option Path)) → Prop
  | some (tk, H1, ds, ps) => callB P g ms (as.map fun a => nilT a.1) (callK st root H1 ds ps K) (roArgs H1 ms as tk)
  | none => False
@[simp] theorem callA_s (g : FuncId) (ms : List Mode) (as : List (TV × Nat)) (tk : List TV) (H1 : Hp) (ds : List Path) (ps : List (Option Path)) :
    callA P st root g ms as K (some (tk, H1, ds, ps)) = callB P g ms (as.map fun a => nilT a.1) (callK st root H1 ds ps K) (roArgs H1 ms as tk) := nrfl rfl

/-- A call, with the modes chosen. -/
theorem callW_ms {g : FuncId} {as : List (TV × Nat)} (ms : List Mode) (h : st.H root = [] ∧ 2 ≤ root ∧ callA P st root g ms as K (takeArgs st.H ms as)) : callW P st root g as K := by
  obtain ⟨h1, h2, h⟩ := h
  cases ht : takeArgs st.H ms as with
  | none => rw [ht] at h; exact h.elim
  | some x =>
    obtain ⟨tk, H1, ds, ps⟩ := x
    rw [ht] at h
    simp only [callA_s] at h
    cases hr : roArgs H1 ms as tk with
    | none => rw [hr] at h; exact h.elim
    | some y =>
      obtain ⟨args, ro⟩ := y
      rw [hr] at h
      obtain ⟨al, res, outs, hC, hal, hb, hK⟩ := h
      refine ⟨al, ms, args, res, outs, hC, h1, h2, tk, H1, ds, ps, ro, ht, hr, hal, hb, ?_⟩
      by_cases ho : (res.flatMap cellsT).any isOwn = true
      · rw [ho] at hK
        simp only [ho, if_true]; exact hK
      · simp only [Bool.not_eq_true] at ho
        rw [ho] at hK
        simp only [ho, Bool.false_eq_true, if_false]; exact hK

def tkA (ms : List Mode) (as : List (TV × Nat)) (u : TV) : Option (List TV × Hp × List Path) → Option (List TV × Hp × List Path × List (Option Path))
  | some (us, H1, ds) => (takeArgs H1 ms as).bind fun y => some (tkOf u us :: y.1, y.2.1, ds ++ y.2.2.1, (cellsT u).map pathOf ++ y.2.2.2)
  | none => none
@[simp] theorem takeArgs_nil' (H : Hp) : takeArgs H [] [] = some ([], H, [], []) := nrfl rfl
@[simp] theorem takeArgs_ro (H : Hp) (ms : List Mode) (a : TV × Nat) (as : List (TV × Nat)) : takeArgs H (.ro :: ms) (a :: as) = (takeArgs H ms as).bind fun y => some (.junk :: y.1, y.2.1, y.2.2.1, y.2.2.2) := nrfl rfl
@[simp] theorem takeArgs_own (H : Hp) (ms : List Mode) (u : TV) (n : Nat) (as : List (TV × Nat)) : takeArgs H (.own :: ms) ((u, n) :: as) = tkA ms as u (takeL (cellsT u) H) := by
  unfold tkA; simp only [takeArgs]; cases takeL (cellsT u) H <;> rfl
@[simp] theorem tkA_s (ms : List Mode) (as : List (TV × Nat)) (u : TV) (us : List TV) (H1 : Hp) (ds : List Path) :
    tkA ms as u (some (us, H1, ds)) = (takeArgs H1 ms as).bind fun y => some (tkOf u us :: y.1, y.2.1, ds ++ y.2.2.1, (cellsT u).map pathOf ++ y.2.2.2) := nrfl rfl
@[simp] theorem roArgs_nil' (H : Hp) : roArgs H [] [] [] = some ([], false) := nrfl rfl
@[simp] theorem roArgs_ro (H : Hp) (ms : List Mode) (u t : TV) (n : Nat) (as : List (TV × Nat)) (ts : List TV) : roArgs H (.ro :: ms) ((u, n) :: as) (t :: ts) = (roT H n u).bind fun x => (roArgs H ms as ts).bind fun y => some (x.1 :: y.1, x.2 || y.2) := nrfl rfl
@[simp] theorem roArgs_own (H : Hp) (ms : List Mode) (a : TV × Nat) (t : TV) (as : List (TV × Nat)) (ts : List TV) : roArgs H (.own :: ms) (a :: as) (t :: ts) = (roArgs H ms as ts).bind fun y => some (t :: y.1, y.2) := nrfl rfl

/-- What is told of a node that one reads. -/
def roV (off len : Nat) : Option TV → Option (TV × Bool)
  | some (.sl true z es) => some (.sl false z (fzLL ((es.drop off).take len)), true)
  | _ => none
@[simp] theorem roT_rf' (H : Hp) (n : Nat) (p : Path) (off len : Nat) : roT H n (.rf p off len) = roV off len (cellAt H p) := by unfold roV; simp only [roT] <;> rfl
@[simp] theorem roV_s (off len z : Nat) (es : List (List TV)) : roV off len (some (.sl true z es)) = some (.sl false z (fzLL ((es.drop off).take len)), true) := nrfl rfl
def roPV (f n : Nat) : Option (List TV) → Option (TV × Bool)
  | some cs => if n = 0 then (if f ≤ cs.length then some (.po false (fzL (cs.drop f)), true) else none) else if f + n ≤ cs.length then some (.po false (fzL ((cs.drop f).take n)), true) else none
  | none => none
@[simp] theorem roT_pt' (H : Hp) (n : Nat) (p : Path) (i f : Nat) : roT H n (.pt p i f) = roPV f n (rowAt H p i) := by
  unfold roPV; simp only [roT]; cases rowAt H p i <;> rfl
@[simp] theorem roPV_s (f n : Nat) (cs : List TV) : roPV f n (some cs) = if n = 0 then (if f ≤ cs.length then some (.po false (fzL (cs.drop f)), true) else none) else if f + n ≤ cs.length then some (.po false (fzL ((cs.drop f).take n)), true) else none := nrfl rfl
@[simp] theorem roT_ag (H : Hp) (n : Nat) (cs : List TV) : roT H n (.ag cs) = (roL H n cs).bind fun x => some (.ag x.1, x.2) := nrfl rfl
@[simp] theorem roT_fn (H : Hp) (n : Nat) (g : FuncId) (cs : List TV) : roT H n (.fn g cs) = (roL H 0 cs).bind fun x => some (.fn g x.1, x.2) := nrfl rfl
@[simp] theorem roT_n (H : Hp) (n z : Nat) : roT H n (.sl true z []) = some (.sl false z [], false) := nrfl rfl
@[simp] theorem roT_r (H : Hp) (n z : Nat) (es : List (List TV)) : roT H n (.sl false z es) = some (.sl false z es, false) := nrfl rfl
@[simp] theorem roT_po (H : Hp) (n : Nat) (cs : List TV) : roT H n (.po false cs) = some (.po false cs, false) := nrfl rfl
@[simp] theorem roT_b (H : Hp) (n : Nat) (x : Bool) : roT H n (.b x) = some (.b x, false) := nrfl rfl
@[simp] theorem roT_i (H : Hp) (n : Nat) (k : IntKind) (m : Int) : roT H n (.i k m) = some (.i k m, false) := nrfl rfl
@[simp] theorem roT_f (H : Hp) (n : Nat) (x : Nat) : roT H n (.f x) = some (.f x, false) := nrfl rfl
@[simp] theorem roT_s (H : Hp) (n : Nat) (x : ByteArray) : roT H n (.s x) = some (.s x, false) := nrfl rfl
@[simp] theorem roT_np (H : Hp) (n : Nat) : roT H n .np = some (.np, false) := nrfl rfl
@[simp] theorem roL_nil (H : Hp) (n : Nat) : roL H n [] = some ([], false) := nrfl rfl
@[simp] theorem roL_cons (H : Hp) (n : Nat) (u : TV) (us : List TV) : roL H n (u :: us) = (roT H n u).bind fun x => (roL H n us).bind fun y => some (x.1 :: y.1, x.2 || y.2) := nrfl rfl

@[simp] theorem resT_1 (u : TV) : resT [u] = u := nrfl rfl
@[simp] theorem resT_0 : resT [] = .tu [] := nrfl rfl
@[simp] theorem resT_2 (u v : TV) (us : List TV) : resT (u :: v :: us) = .tu (u :: v :: us) := nrfl rfl
@[simp] theorem refTu_nil (r k : Nat) : refTu r k [] = [] := nrfl rfl
@[simp] theorem refTu_ag (r k : Nat) (cs us : List TV) : refTu r k (.ag cs :: us) = .ag (refsFrom [] r k cs) :: refTu r (k + cs.length) us := nrfl rfl
@[simp] theorem refTu_sl (r k z : Nat) (o : Bool) (es : List (List TV)) (us : List TV) : refTu r k (.sl o z es :: us) = toRef [(r, k)] (.sl o z es) :: refTu r (k + 1) us := nrfl rfl
@[simp] theorem refTu_po (r k : Nat) (o : Bool) (cs : List TV) (us : List TV) : refTu r k (.po o cs :: us) = toRef [(r, k)] (.po o cs) :: refTu r (k + 1) us := nrfl rfl
@[simp] theorem refTu_b (r k : Nat) (x : Bool) (us : List TV) : refTu r k (.b x :: us) = .b x :: refTu r (k + 1) us := nrfl rfl
@[simp] theorem refTu_i (r k : Nat) (kk : IntKind) (x : Int) (us : List TV) : refTu r k (.i kk x :: us) = .i kk x :: refTu r (k + 1) us := nrfl rfl
@[simp] theorem refTu_f (r k : Nat) (x : Nat) (us : List TV) : refTu r k (.f x :: us) = .f x :: refTu r (k + 1) us := nrfl rfl
@[simp] theorem refTu_s (r k : Nat) (x : ByteArray) (us : List TV) : refTu r k (.s x :: us) = .s x :: refTu r (k + 1) us := nrfl rfl
@[simp] theorem refTu_np (r k : Nat) (us : List TV) : refTu r k (.np :: us) = .np :: refTu r (k + 1) us := nrfl rfl

@[simp] theorem backsOf_nil (os : List (Option TV)) : backsOf [] os = [] := by cases os <;> rfl
@[simp] theorem backsOf_s (p : Option Path) (ps : List (Option Path)) (u : TV) (os : List (Option TV)) : backsOf (p :: ps) (some u :: os) = p :: backsOf ps os := nrfl rfl
@[simp] theorem backsOf_n (p : Option Path) (ps : List (Option Path)) (os : List (Option TV)) : backsOf (p :: ps) (none :: os) = none :: backsOf ps os := by cases p <;> rfl
@[simp] theorem outsT_nil : outsT [] = [] := nrfl rfl
@[simp] theorem outsT_s (u : TV) (os : List (Option TV)) : outsT (some u :: os) = u :: outsT os := nrfl rfl
@[simp] theorem outsT_n (os : List (Option TV)) : outsT (none :: os) = .junk :: outsT os := nrfl rfl
@[simp] theorem putBack_nil' (H : Hp) (us : List TV) : putBack H [] us = H := by cases us <;> rfl
@[simp] theorem putBack_s (H : Hp) (p : Path) (bs : List (Option Path)) (u : TV) (us : List TV) : putBack H (some p :: bs) (u :: us) = putBack (modH H (fun _ => u) p) bs us := nrfl rfl
@[simp] theorem putBack_n (H : Hp) (bs : List (Option Path)) (u : TV) (us : List TV) : putBack H (none :: bs) (u :: us) = putBack H bs us := nrfl rfl
@[simp] theorem backOk_nil (H H1 : Hp) : backOk H H1 [] [] = True := nrfl rfl
@[simp] theorem backOk_ss (H H1 : Hp) (p : Path) (ps : List (Option Path)) (u : TV) (os : List (Option TV)) : backOk H H1 (some p :: ps) (some u :: os) = ((shape u = shapeAt H p ∧ (cellAt H1 p).isSome = true ∧ some p ∉ backsOf ps os) ∧ backOk H H1 ps os) := nrfl rfl
@[simp] theorem backOk_ns (H H1 : Hp) (ps : List (Option Path)) (u : TV) (os : List (Option TV)) : backOk H H1 (none :: ps) (some u :: os) = backOk H H1 ps os := nrfl rfl
@[simp] theorem backOk_n (H H1 : Hp) (p : Option Path) (ps : List (Option Path)) (os : List (Option TV)) : backOk H H1 (p :: ps) (none :: os) = backOk H H1 ps os := by cases p <;> rfl
attribute [simp] tkOf pathOf isOwn prs_nil prs_cons

/-! ### ends -/
section
variable {al : Bool} {res : List TV} {outs : List (Option TV)} {gq : List (Option Path)} {rt : List TRes}
def endV3 (st : St) (outs : List (Option TV)) (gq : List (Option Path)) : Option (List TV × Hp × List Path) → Prop
  | some (ls, _, _) => backs st 0 gq ls outs
  | none => False
@[simp] theorem endV3_s (ls : List TV) (H2 : Hp) (ds : List Path) : endV3 st outs gq (some (ls, H2, ds)) = backs st 0 gq ls outs := nrfl rfl
def endV2 (al : Bool) (st : St) (res : List TV) (outs : List (Option TV)) (gq : List (Option Path)) : Option (List TV × Hp × List Path) → Prop
  | some (us, H1, _) => us = res.flatMap cellsT ∧ (al = false → us.all noRO = true ∧ outsNoRO outs = true) ∧ endV3 st outs gq (takeL (gq.map (ghostRef H1)) H1)
  | none => False
@[simp] theorem endV2_s (us : List TV) (H1 : Hp) (ds : List Path) : endV2 al st res outs gq (some (us, H1, ds)) = (us = res.flatMap cellsT ∧ (al = false → us.all noRO = true ∧ outsNoRO outs = true) ∧ endV3 st outs gq (takeL (gq.map (ghostRef H1)) H1)) := nrfl rfl
def endV1 (al : Bool) (st : St) (res : List TV) (outs : List (Option TV)) (gq : List (Option Path)) : Option (List TV) → Prop
  | some tvs => tvs.map isAg = res.map isAg ∧ tvs.map (fun u => (cellsT u).length) = res.map (fun u => (cellsT u).length) ∧ endV2 al st res outs gq (takeL (tvs.flatMap cellsT) st.H)
  | none => False
@[simp] theorem endV1_s (tvs : List TV) : endV1 al st res outs gq (some tvs) = (tvs.map isAg = res.map isAg ∧ tvs.map (fun u => (cellsT u).length) = res.map (fun u => (cellsT u).length) ∧ endV2 al st res outs gq (takeL (tvs.flatMap cellsT) st.H)) := nrfl rfl
theorem endV_eq : endV1 al st res outs gq (optAll (rt.map (resTV st))) = ∃ tvs us H1 ds ls H2 ds2, optAll (rt.map (resTV st)) = some tvs ∧ takeL (tvs.flatMap cellsT) st.H = some (us, H1, ds) ∧ us = res.flatMap cellsT ∧
      tvs.map isAg = res.map isAg ∧ tvs.map (fun u => (cellsT u).length) = res.map (fun u => (cellsT u).length) ∧
      takeL (gq.map (ghostRef H1)) H1 = some (ls, H2, ds2) ∧ backs st 0 gq ls outs ∧ (al = false → us.all noRO = true ∧ outsNoRO outs = true) := by
  apply propext
  cases h1 : optAll (rt.map (resTV st)) with
  | none => simp [endV1]
  | some tvs =>
    simp only [endV1]
    cases h2 : takeL (tvs.flatMap cellsT) st.H with
    | none =>
      simp only [endV2]
      constructor
      · rintro ⟨_, _, h⟩; exact h.elim
      · rintro ⟨tvs', us, H1, ds, ls, H2, ds2, e, h, _⟩; cases e; rw [h2] at h; cases h
    | some x =>
      obtain ⟨us, H1, ds⟩ := x
      simp only [endV2]
      cases h3 : takeL (gq.map (ghostRef H1)) H1 with
      | none =>
        simp only [endV3]
        constructor
        · rintro ⟨_, _, _, _, h⟩; exact h.elim
        · rintro ⟨tvs', us', H1', ds', ls, H2, ds2, e, h, _, _, _, h4, _⟩; cases e; rw [h2] at h; cases h; rw [h3] at h4; cases h4
      | some y =>
        obtain ⟨ls, H2, ds2⟩ := y
        simp only [endV3]
        constructor
        · rintro ⟨a, b, c, d, e⟩
          exact ⟨tvs, us, H1, ds, ls, H2, ds2, rfl, h2, c, a, b, h3, e, d⟩
        · rintro ⟨tvs', us', H1', ds', ls', H2', ds2', e, h, c, a, b, h4, e2, d⟩
          cases e; rw [h2] at h; cases h; rw [h3] at h4; cases h4
          exact ⟨a, b, c, d, e2⟩
@[simp] theorem endW_n : endW al res outs gq rt .normal st = endV1 al st res outs gq (optAll (rt.map (resTV st))) := by rw [endV_eq]; rfl
@[simp] theorem endW_r : endW al res outs gq rt .ret st = endV1 al st res outs gq (optAll (rt.map (resTV st))) := by rw [endV_eq]; rfl

@[simp] theorem resTV_tmp (t : Nat) : resTV st (.tmp t) = some (st.t t) := nrfl rfl
@[simp] theorem resTV_cell (t : Nat) (g : Bool) (n : Nat) : resTV st (.cell t g n) = loadT st.H g n (st.t t) := nrfl rfl
def loadTV (p : Path) (i f : Nat) (g : Bool) (n : Nat) : Option (List TV) → Option TV
  | some cs => if f + n ≤ cs.length then
      if g then some (.ag (refsFrom p i f ((cs.drop f).take n))) else some ((refsFrom p i f ((cs.drop f).take 1)).headD .junk) else none
  | none => none
@[simp] theorem loadT_pt (H : Hp) (g : Bool) (n : Nat) (p : Path) (i f : Nat) : loadT H g n (.pt p i f) = loadTV p i f g n (rowAt H p i) := by
  unfold loadTV; simp only [loadT]; cases rowAt H p i <;> rfl
@[simp] theorem loadTV_s (p : Path) (i f : Nat) (g : Bool) (n : Nat) (cs : List TV) : loadTV p i f g n (some cs) = if f + n ≤ cs.length then
      if g then some (.ag (refsFrom p i f ((cs.drop f).take n))) else some ((refsFrom p i f ((cs.drop f).take 1)).headD .junk) else none := nrfl rfl
@[simp] theorem optAll_nil {α : Type} : optAll ([] : List (Option α)) = some [] := nrfl rfl
@[simp] theorem optAll_cons {α : Type} (x : α) (xs : List (Option α)) : optAll (some x :: xs) = (optAll xs).bind fun ys => some (x :: ys) := by simp [optAll]
def ghostV (q : Path) : Option TV → TV
  | some (.sl true _ es) => .rf q 0 es.length
  | some (.po true _) => .pt q 0 0
  | _ => .junk
@[simp] theorem ghost_n (H : Hp) : ghostRef H none = .np := nrfl rfl
@[simp] theorem ghost_s (H : Hp) (q : Path) : ghostRef H (some q) = ghostV q (cellAt H q) := nrfl rfl
@[simp] theorem ghostV_s (q : Path) (z : Nat) (es : List (List TV)) : ghostV q (some (.sl true z es)) = .rf q 0 es.length := nrfl rfl
@[simp] theorem ghostV_p (q : Path) (cs : List TV) : ghostV q (some (.po true cs)) = .pt q 0 0 := nrfl rfl
@[simp] theorem backs_nil (m : Nat) : backs st m [] [] [] = True := nrfl rfl
@[simp] theorem backs_s (m : Nat) (q : Path) (gq : List (Option Path)) (l u : TV) (ls : List TV) (os : List (Option TV)) : backs st m (some q :: gq) (l :: ls) (some u :: os) = (l = u ∧ (shape u).isSome = true ∧ (q = [(1, m)] ∨ st.org q = some m) ∧ backs st (m + 1) gq ls os) := nrfl rfl
@[simp] theorem backs_n (m : Nat) (gq : List (Option Path)) (l : TV) (ls : List TV) (os : List (Option TV)) : backs st m (none :: gq) (l :: ls) (none :: os) = backs st (m + 1) gq ls os := nrfl rfl
@[simp] theorem outsNoRO_nil : outsNoRO [] = true := nrfl rfl
@[simp] theorem outsNoRO_s (u : TV) (os : List (Option TV)) : outsNoRO (some u :: os) = (noRO u && outsNoRO os) := nrfl rfl
@[simp] theorem outsNoRO_n (os : List (Option TV)) : outsNoRO (none :: os) = outsNoRO os := nrfl rfl
attribute [simp] noRO noROL noROLL
@[simp] theorem O_nil (ob : Path → Option Nat) (q : Path) : O [] ob q = ob q := nrfl rfl
@[simp] theorem O_cons (nr : Option Nat) (norg : List (Option Nat)) (dead : Option (Path → Bool)) (os : List OE) (ob : Path → Option Nat) (s : Nat × Nat) (r : Path) : O (⟨nr, norg, dead⟩ :: os) ob (s :: r) = if nr = some s.1 then (match r with
        | [t] => if s.2 = 0 ∧ t.1 = 0 then (norg[t.2]?).bind id else none
        | _ => none) else if deadB dead (s :: r) = true then none else O os ob (s :: r) := nrfl rfl
attribute [simp] deadB norgOf orgOf
end

/-! ### ways that part -/
@[simp] theorem condS_dec {a b : TCode} {TQ : TExit → St → Prop} (p : Prop) [Decidable p] : condS P a b TQ st (decide p) = ((p → twp P a TQ st) ∧ (¬ p → twp P b TQ st)) := by
  unfold condS; simp
@[simp] theorem condS_not {a b : TCode} {TQ : TExit → St → Prop} (x : Bool) : condS P a b TQ st (!x) = condS P b a TQ st x := by
  cases x <;> simp
end
end Go.Proofs.YtloodkhdngipbaaT
