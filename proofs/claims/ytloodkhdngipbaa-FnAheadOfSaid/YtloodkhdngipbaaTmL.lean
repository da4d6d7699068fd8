/- TM, part L: box, slice literals, make, store, append: shown right. -/
import Derived.Test.YtloodkhdngipbaaTmK
import Derived.Laws.AppendOwn
namespace Go.Proofs.YtloodkhdngipbaaT
set_option linter.unusedVariables false
set_option linter.unusedSimpArgs false
open Go

section
variable {P : Program} {F : Fr} {st : St} {w w' w0 : World} {S0 : Nat → Nat → Prop} {κ κ' : Path → Value} {γ γ' : Nat → Nat → Option Path} {H H1 : Hp} {A K : Nat → Nat → Prop} {o : Oper} {E : Eff} {root : Nat}

theorem take1_fit {c u : TV} {d : List Path} (ht : take1 H c = some (u, H1, d)) : c ≠ .junk ∧ (∀ vs, c ≠ .tu vs) ∧ isAg c = false := by
  refine ⟨?_, ?_, ?_⟩
  · rintro rfl; simp [take1, noref] at ht
  · rintro vs rfl; simp [take1, noref] at ht
  · cases c with
    | ag cs => simp [take1, noref] at ht
    | _ => rfl

theorem takeL_fit : ∀ {cs us : List TV} {H H1 : Hp} {d : List Path}, takeL cs H = some (us, H1, d) → ∀ c ∈ cs, c ≠ .junk ∧ (∀ vs, c ≠ .tu vs) ∧ isAg c = false
  | [], us, H, H1, d, ht, c, hc => by cases hc
  | c0 :: cs, us, H, H1, d, ht, c, hc => by
    simp only [takeL, Option.bind_eq_some_iff, Option.some.injEq, Prod.mk.injEq] at ht
    obtain ⟨⟨u, H2, d2⟩, h1, ⟨us', H3, d3⟩, h2, _, _, _⟩ := ht
    cases hc with
    | head => exact take1_fit h1
    | tail _ hc => exact takeL_fit h2 c hc

theorem oneCell_of {c : TV} {v : Value} (h : RV w κ H A c v) (hc : c ≠ .junk ∧ (∀ vs, c ≠ .tu vs) ∧ isAg c = false) : v.oneCell' = true := by
  obtain ⟨h1, h2, h3⟩ := hc
  cases h with
  | pure u v h => cases h with
    | junk => exact absurd rfl h1
    | pin v h => exact h
    | _ => rfl
  | ag => cases h3
  | tu cs => exact absurd rfl (h2 cs)
  | _ => rfl

/-- A value's cells taken, all at once. -/
theorem takeV {x : TV} {v : Value} {us : List TV} {d : List Path} (h : HR w0 S0 A w κ γ H) (h0 : H 0 = []) (hx : RV w κ H A x v) (ht : takeL (cellsT x) H = some (us, H1, d)) :
    (cellsT x).length = (cellsV v).length ∧ (∀ y ∈ cellsV v, y.oneCell' = true) ∧ ∃ κ' γ', HR w0 S0 A w κ' γ' (wr0 H1 us) ∧ H1 0 = [] ∧ us.length = (cellsV v).length ∧ (∀ (j : Nat) (y : Value), (cellsV v)[j]? = some y → κ' [(0, j)] = y) ∧
      (∀ q, (∀ j r, q ≠ (0, j) :: r) → κ' q = κ q) ∧ (∀ q, (∀ p ∈ d, ¬ p <+: q) → shapeAt H1 q = shapeAt H q) ∧ (∀ q, Live H1 q → ∀ p ∈ d, ¬ p <+: q) := by
  have hfit := takeL_fit ht
  have hn : isAg x = true ∨ (∀ vs, x ≠ .tu vs) := by
    by_cases hg : isAg x = true
    · exact .inl hg
    · refine .inr fun vs hh => ?_
      subst hh
      exact (hfit (.tu vs) (by simp [cellsT])).2.1 vs rfl
  obtain ⟨hl, hc⟩ := rv_cells hx (fun c hc => (hfit c hc).1) hn
  have hH : HR w0 S0 A w κ γ (wr0 H []) := by rw [wr0_self h0]; exact h
  obtain ⟨κ', γ', k1, k2, k3, k4, k5, k6, k7, k8⟩ := takeL_ok (cellsT x) (cellsV v) [] us H H1 κ γ d hH h0 hl (fun j c y hj hy => (hc j c y hj hy).rs) ht
  refine ⟨hl, fun y hy => ?_, κ', γ', by simpa using k1, k2, k3.trans hl, fun j y hy => by simpa using k4 j y hy, fun q hq => k5 q (fun j r hh => hq _ _ (by simpa using hh)), k6, k8⟩
  obtain ⟨j, hj⟩ := List.getElem?_of_mem hy
  have hlt : j < (cellsT x).length := by have := (List.getElem?_eq_some_iff.1 hj).1; omega
  have hjc : (cellsT x)[j]? = some (cellsT x)[j] := List.getElem?_eq_getElem hlt
  exact oneCell_of (hc j _ y hjc hj) (hfit _ (List.getElem_mem hlt))

theorem cells_toList (v : Value) : v.cells.toList = cellsV v := by cases v <;> rfl

/-- The header of what is boxed. -/
theorem norg_val {c : TV} {y : Value} {m : Nat} {k1 : Nat → Value} (hv : RV w κ st.H A c y) (hm : norgOf st c = some m) (h6 : ∀ b, κ [(1, b)] = k1 b) (h7 : ∀ q m, st.org q = some m → Live st.H q → κ q = k1 m) : y = k1 m := by
  have key : ∀ p, orgOf st p = some m → Live st.H p → κ p = k1 m := by
    intro p hp hl
    unfold orgOf at hp
    split at hp
    · rename_i s
      obtain ⟨s1, s2⟩ := s
      split at hp
      · rename_i h1
        simp only at h1; subst h1
        simp only [Option.some.injEq] at hp; subst hp
        exact h6 _
      · exact h7 _ _ hp hl
    · exact h7 _ _ hp hl
  unfold norgOf at hm
  split at hm
  · rename_i p len
    split at hm
    case isFalse => cases hm
    rename_i hs
    cases hv with
    | pure u v h => cases h
    | rf0 p z off hk hc => rw [← key _ hm ((live_iff _ _).2 (by rw [hc]; rfl)), hk]
    | rf p z n c B o off len' hk hc hb hn =>
      rw [hc] at hs
      simp only [Option.map_some, Option.some.injEq] at hs
      subst hs
      rw [← key _ hm ((live_iff _ _).2 (by rw [hc]; rfl)), hk]
      simp
    | rfE p z n c B o off o1 c1 hk hc g1 g2 g3 => exact absurd rfl g3
  · rename_i p
    split at hm
    case isFalse => cases hm
    rename_i hs
    cases hv with
    | pure u v h => cases h
    | ptS p z n c B o i f hk hc hi hf => rw [hc] at hs; simp at hs
    | ptP p B o f n hk hc hf => rw [← key _ hm ((live_iff _ _).2 (by rw [hc]; rfl)), hk]; rfl
  · cases hm

theorem good_box {x' : TOpd} {n : Nat} (e : TypeId) (xv : Act → Value) (hxv : ∀ (a : Act) (w : World) κ, (∀ k, RV w κ st.H F.A (st.t k) ((a.tmps[k]?).getD undef)) → RV w κ st.H F.A (x'.ev st) (xv a))
    (hrun : ∀ (a : Act) (w : World), (execOp a.eval o).run P w = .ok (.value (.pointer (some ⟨w.heap.size, 0, none⟩))) (w.alloc (.cells (xv a).cells e)))
    (hd : ∀ d, o.dst = some d → d < F.N) (hE : opW P st root (.box n x') (· = E)) : Good P F o st E := by
  simp only [opW] at hE
  split at hE
  case h_2 => exact hE.elim
  rename_i us H1 ds ht
  obtain ⟨hn, hroot, hr0, rfl⟩ := hE
  intro a w K Q hR hK
  obtain ⟨κ, γ, h1, h2, h3, h4, h5, h6, h7⟩ := hR
  unfold Oper.wp
  rw [hrun, Oper.upon_value]
  refine hK _ _ ?_
  obtain ⟨g1, _, κ', γ', k1, k2, k3, k4, k5, k6, k8⟩ := takeV h1 h2 (hxv a w κ h4) ht
  have hsz : (xv a).cells.size = us.length := by rw [k3, ← cells_toList]; simp
  have hnf := k1.newFlat (T := e) (root := root) (arr := (xv a).cells) (z := us.length) (u := .po true us) (v := .pointer (some ⟨w.heap.size, 0, none⟩)) k2 (by omega) (by
    intro k c hc
    have hlt : k < (xv a).cells.size := by rw [hsz]; exact (List.getElem?_eq_some_iff.1 hc).1
    have e1 : (cellsV (xv a))[k]? = some (xv a).cells[k] := by rw [← cells_toList, Array.getElem?_toList]; simp [hlt]
    rw [k4 k _ e1]; simp [hlt]) (.inl ⟨rfl, rfl, rfl⟩) hsz
  have h8 : ∀ (f m : Nat), ((cellsT (x'.ev st)).map (norgOf st))[f]? = some (some m) → grpκ κ' root us.length (.pointer (some ⟨w.heap.size, 0, none⟩)) [(root, 0), (0, f)] = F.k1 m := by
    intro f m hf
    rw [List.getElem?_map] at hf
    cases hc : (cellsT (x'.ev st))[f]? with
    | none => simp [hc] at hf
    | some c =>
    have hm : norgOf st c = some m := by simpa [hc] using hf
    obtain ⟨f1, f2⟩ := rv_cells (hxv a w κ h4) (fun c hc => (takeL_fit ht c hc).1) (by
      by_cases hg : isAg (x'.ev st) = true
      · exact .inl hg
      · refine .inr fun vs hh => ?_
        exact (takeL_fit ht (.tu vs) (by rw [hh]; simp [cellsT])).2.1 vs rfl)
    have hlt : f < (cellsV (xv a)).length := by have := (List.getElem?_eq_some_iff.1 hc).1; omega
    have hy := List.getElem?_eq_getElem hlt
    have := norg_val (f2 f c _ hc hy) hm h6 h7
    rw [← this, ← k4 f _ hy]
    simp [grpκ]
  refine Rel.fresh (K := fun _ _ => True) h2 k2 hroot hr0 h3 hd h5 h6 h7 h8 h4 hnf (fun q q0 q1 => (grpκ_other q q1).trans (k5 q q0)) k6 (Keep.alloc _ _ _) (fun _ _ _ => trivial) fun _ => ?_
  exact .ptP [(root, 0)] _ 0 0 us.length grpκ_root (by simp [shapeAt, cellAt, setRoot, down, shape]) (Nat.zero_le _)

theorem run_newRow (e : TypeId) (cs : Array Value) : (newRow e cs).run P w = .ok ⟨w.heap.size, 0, none⟩ (w.alloc (.cells cs e)) := by
  simp [newRow]

theorem good_alloc {e : TypeId} {zv : Value} {u : TV} (hop : o.op = .alloc e) (hz : tyZero P e = some zv) (hu : valT P e zv = some u)
    (hd : ∀ d, o.dst = some d → d < F.N) (hE : opW P st root (.box (cellsT u).length (.c u)) (· = E)) : Good P F o st E := by
  refine good_box e (fun _ => zv) (fun a w κ _ => valT_rv hu) (fun a w => ?_) hd hE
  simp only [execOp, hop, Instr.alloc, Sem.run_bind, run_zero w hz, Result.andThen_ok, newVar, run_newRow, Sem.run_pure]

theorem good_boxop {e : TypeId} {x : Operand} {x' : TOpd} {tx : TypeId} {n : Nat} (hop : o.op = .box e x) (hx : compOpd P tx x = some x')
    (hd : ∀ d, o.dst = some d → d < F.N) (hE : opW P st root (.box n x') (· = E)) : Good P F o st E := by
  refine good_box e (fun a => a.eval x) (fun a w κ ht => opd_rv hx ht) (fun a w => ?_) hd hE
  simp only [execOp, hop, Instr.box, Sem.run_bind, Result.andThen_ok, newVar, run_newRow, Sem.run_pure]

/-! ### store -/
theorem run_storeAt {t : TypeId} {B off : Nat} {v : Value} {arr : Array Value} {T : TypeId} (hn : tySize P t = some (cellsV v).length) (hb : w.heap[B]? = some (.cells arr T (0, 0))) (hs : off + (cellsV v).length ≤ arr.size)
    (h1 : ∀ y ∈ cellsV v, y.oneCell' = true) : (Instr.storeAt t (.pointer (some ⟨B, off, none⟩)) v).run P w = .ok () (w.setCells B off (cellsV v)) := by
  have hlen : v.cells.size = (cellsV v).length := by rw [← cells_toList]; simp
  have hc : ∀ j, j < (cellsV v).length → (w.cell? ⟨B, off + j, none⟩).isSome = true := by
    intro j hj
    rw [cell_of hb]; simp; omega
  have hf : ∀ j, j < (cellsV v).length → w.frozen? ⟨B, off + j, none⟩ = false := by
    intro j hj
    simp [World.frozen?, hb]
  have := run_storeCells_cells (P := P) B off (cellsV v) 0 w (fun j hj => by simpa using hc j hj) (fun j hj => by simpa using hf j hj) h1
  simp only [Nat.add_zero] at this
  simp [Instr.storeAt, Instr.sureAddr, storeVar, run_size w hn, hlen, cells_toList, this]

theorem upk_upk (φ ψ : TV → TV) (s : Nat × Nat) (u : TV) : upk φ s (upk ψ s u) = upk (fun x => φ (ψ x)) s u := by
  cases u with
  | sl own z es =>
    cases own
    · rfl
    · simp only [upk, List.modify_modify_eq]
      congr 2
      funext e
      simp only [Function.comp_def, List.modify_modify_eq]
  | po own cs =>
    cases own
    · rfl
    · simp only [upk]
      by_cases h : s.1 = 0
      · simp only [h, if_true, List.modify_modify_eq]; rfl
      · simp [h]
  | _ => rfl

theorem upk_comm (φ ψ : TV → TV) (i f f' : Nat) (h : f ≠ f') (u : TV) : upk φ (i, f) (upk ψ (i, f') u) = upk ψ (i, f') (upk φ (i, f) u) := by
  cases u with
  | sl own z es =>
    cases own
    · rfl
    · simp only [upk, List.modify_modify_eq]
      congr 2
      funext e
      simp only [Function.comp_def]
      exact (List.modify_modify_ne _ _ _ (Ne.symm h))
  | po own cs =>
    cases own
    · rfl
    · simp only [upk]
      by_cases hi : i = 0
      · simp only [hi, if_true]
        congr 1
        exact (List.modify_modify_ne _ _ _ (Ne.symm h))
      · simp [hi]
  | _ => rfl

theorem modd_snoc (φ : TV → TV) (s : Nat × Nat) : ∀ r : Path, modd φ (r ++ [s]) = modd (upk φ s) r
  | [] => rfl
  | s0 :: r => by funext u; simp only [List.cons_append, modd, modd_snoc φ s r]

theorem modd_modd (φ ψ : TV → TV) : ∀ (r : Path) (u : TV), modd φ r (modd ψ r u) = modd (fun x => φ (ψ x)) r u
  | [], _ => rfl
  | s :: r, u => by
    simp only [modd, upk_upk]
    congr 1
    funext x
    exact modd_modd φ ψ r x

theorem modH_snoc (φ : TV → TV) (p : Path) (s : Nat × Nat) (hp : p ≠ []) (H : Hp) : modH H φ (p ++ [s]) = modH H (upk φ s) p := by
  cases p with
  | nil => exact absurd rfl hp
  | cons s0 r => simp only [List.cons_append, modH, modd_snoc]

theorem modH_modH (φ ψ : TV → TV) (p : Path) (H : Hp) : modH (modH H ψ p) φ p = modH H (fun x => φ (ψ x)) p := by
  cases p with
  | nil => rfl
  | cons s r =>
    funext y
    simp only [modH]
    by_cases h : y = s.1
    · simp only [h, if_true, List.modify_modify_eq]
      congr 1
      funext u
      exact modd_modd φ ψ r u
    · simp [h]

def putF (i : Nat) : Nat → List TV → TV → TV
  | _, [], x => x
  | f, u :: us, x => putF i (f + 1) us (upk (fun _ => u) (i, f) x)

theorem modH_id (p : Path) (H : Hp) : modH H (fun x => x) p = H := by
  have hid : ∀ (r : Path) (u : TV), modd (fun x => x) r u = u := by
    intro r
    induction r with
    | nil => intro u; rfl
    | cons s r ih =>
      intro u
      have : modd (fun x => x) r = id := by funext x; exact ih x
      cases u with
      | sl own z es =>
        cases own
        · rfl
        · simp only [modd, upk, this]
          have e1 : (fun e : List TV => e.modify s.2 id) = id := by funext e; exact List.modify_id _ _
          rw [e1, List.modify_id]
      | po own cs =>
        cases own
        · rfl
        · simp [modd, upk, this]
      | _ => rfl
  cases p with
  | nil => rfl
  | cons s r =>
    funext y
    simp only [modH]
    have : modd (fun x => x) r = id := by funext x; exact hid r x
    by_cases h : y = s.1 <;> simp [h, this]

theorem putL_eq (p : Path) (i : Nat) (hp : p ≠ []) : ∀ (us : List TV) (f : Nat) (H : Hp), putL p i f us H = modH H (putF i f us) p
  | [], f, H => (modH_id p H).symm
  | u :: us, f, H => by
    simp only [putL]
    rw [putL_eq p i hp us (f + 1), modH_snoc _ _ _ hp, modH_modH]
    rfl

theorem putF_comm (i : Nat) (u : TV) : ∀ (us : List TV) (f f' : Nat) (x : TV), f < f' → putF i f' us (upk (fun _ => u) (i, f) x) = upk (fun _ => u) (i, f) (putF i f' us x)
  | [], _, _, _, _ => rfl
  | v :: us, f, f', x, h => by
    simp only [putF]
    rw [upk_comm _ _ i f' f (by omega), putF_comm i u us f (f' + 1) _ (by omega)]

theorem putF_putF (i : Nat) : ∀ (us vs : List TV) (f : Nat) (x : TV), us.length = vs.length → putF i f vs (putF i f us x) = putF i f vs x
  | [], [], _, _, _ => rfl
  | u :: us, v :: vs, f, x, h => by
    simp only [putF]
    rw [← putF_comm i v us f (f + 1) _ (by omega), upk_upk]
    exact putF_putF i us vs (f + 1) _ (by simpa using h)
  | [], _ :: _, _, _, h => by simp at h
  | _ :: _, [], _, _, h => by simp at h

theorem putL_junk (p : Path) (i : Nat) (hp : p ≠ []) (us vs : List TV) (f : Nat) (H : Hp) (h : us.length = vs.length) : putL p i f vs (putL p i f us H) = putL p i f vs H := by
  rw [putL_eq p i hp, putL_eq p i hp, putL_eq p i hp, modH_modH]
  congr 1
  funext x
  exact putF_putF i us vs f x h

theorem putL_nil {p : Path} {i : Nat} {r : Nat} : ∀ (us : List TV) (f : Nat) (H : Hp), H r = [] → putL p i f us H r = []
  | [], _, _, h => h
  | u :: us, f, H, h => putL_nil us (f + 1) _ (modH_nil _ h)

theorem putL_shape {p : Path} {i : Nat} {q : Path} : ∀ (us : List TV) (f : Nat) (H : Hp), (∀ k, k < us.length → ¬ p ++ [(i, f + k)] <+: q) → shapeAt (putL p i f us H) q = shapeAt H q
  | [], _, _, _ => rfl
  | u :: us, f, H, h => by
    simp only [putL]
    rw [putL_shape us (f + 1) _ (fun k hk => by have := h (k + 1) (by simp; omega); rwa [show f + 1 + k = f + (k + 1) by omega])]
    exact shapeAt_modH _ _ _ _ (by simpa using h 0 (by simp))

theorem putL_node {p : Path} {i : Nat} (hp : p ≠ []) : ∀ (us : List TV) (f : Nat) (H : Hp) (nd : TV), cellAt H p = some nd →
    ∃ nd', cellAt (putL p i f us H) p = some nd' ∧ (∀ k s, cellAddr k nd' s = cellAddr k nd s) ∧ (∀ s, (kid nd' s).isSome = (kid nd s).isSome)
  | [], _, _, nd, h => ⟨nd, h, fun _ _ => rfl, fun _ => rfl⟩
  | u :: us, f, H, nd, h => by
    obtain ⟨nd', h1, h2, h3⟩ := putL_node hp us (f + 1) (modH H (fun _ => u) (p ++ [(i, f)])) (upk (fun _ => u) (i, f) nd) (by rw [kid_mod _ _ _ hp, h]; rfl)
    refine ⟨nd', h1, fun k s => (h2 k s).trans (cellAddr_upk _ _ _ _ _), fun s => (h3 s).trans ?_⟩
    by_cases hs : s = (i, f)
    · subst hs; rw [kid_upk_same]; cases kid nd (i, f) <;> rfl
    · rw [kid_upk_ne _ _ _ _ hs]

theorem putL_wr0 {p : Path} {i : Nat} (L : List TV) (hp : p ≠ []) (hpz : ∀ j r, p ≠ (0, j) :: r) : ∀ (us : List TV) (f : Nat) (H : Hp), putL p i f us (wr0 H L) = wr0 (putL p i f us H) L
  | [], _, _ => rfl
  | u :: us, f, H => by
    simp only [putL]
    rw [modH_wr0 _ _ _ (by
      intro j r hh
      cases p with
      | nil => exact hp rfl
      | cons s0 r0 => simp only [List.cons_append, List.cons.injEq] at hh; exact hpz j r0 (by rw [hh.1]))]
    exact putL_wr0 L hp hpz us (f + 1) _

/-- A store, of a value that is told somehow. -/
theorem store_at {t tx : TypeId} {x y : Operand} {x' y' : TOpd} {n : Nat} {a : Act} {w : World} (hop : o.op = .store t x y) (hn : tySize P t = some n) (hx : compOpd P tx x = some x')
    (hR : Rel F st a w) (hyv : ∀ κ, (∀ k, RV w κ st.H F.A (st.t k) ((a.tmps[k]?).getD undef)) → RV w κ st.H F.A (y'.ev st) (a.eval y))
    (hd : ∀ d, o.dst = some d → d < F.N) (hE : opW P st root (.store n x' y') (· = E)) :
    ∃ B off, a.eval x = .pointer (some ⟨B, off, none⟩) ∧ (cellsV (a.eval y)).length = n ∧ (∀ z ∈ cellsV (a.eval y), z.oneCell' = true) ∧
      (execOp a.eval o).run P w = .ok .skip (w.setCells B off (cellsV (a.eval y))) ∧ Rel F (st.put o.dst E) (a.put o.dst undef) (w.setCells B off (cellsV (a.eval y))) := by
  simp only [opW] at hE
  split at hE
  case h_2 => exact hE.elim
  rename_i p i f hb
  split at hE
  case h_2 => exact hE.elim
  rename_i us H1 ds ht
  obtain ⟨hlen, hrow, rfl⟩ := hE
  split at hrow
  case h_2 => exact hrow.elim
  rename_i cs hr
  obtain ⟨κ, γ, h1, h2, h3, h4, h5, h6, h7⟩ := hR
  have hpv := opd_rv hx h4; rw [hb] at hpv
  obtain ⟨g1, gone, κ1, γ1, k1, k2, k3, k4, k5, k6, k8⟩ := takeV h1 h2 (hyv κ h4) ht
  -- the place, behind the taking
  have hcell : ∃ nd, cellAt H1 p = some nd ∧ (shape nd).isSome = true := by
    simp only [rowAt, Option.bind_eq_some_iff] at hr
    obtain ⟨es, ⟨nd, q1, q2⟩, q3⟩ := hr
    refine ⟨nd, q1, ?_⟩
    unfold rows at q2
    split at q2 <;> first | rfl | cases q2
  obtain ⟨nd, hnd, hsh⟩ := hcell
  have hp0 : p ≠ [] := node_ne hr
  have hpz := not0_of_live k2 hnd
  have hpd : ∀ p' ∈ ds, ¬ p' <+: p := k8 p ⟨nd, hnd, hsh⟩
  have hpv1 : RV w κ1 H1 F.A (.pt p i f) (a.eval x) := by
    have e1 := k5 p hpz
    have e2 := k6 p hpd
    generalize a.eval x = v at hpv
    cases hpv with
    | pure u v h => cases h
    | ptS p z n c B o i f hk hc hi hf => exact .ptS p z n c B o i f (e1.trans hk) (e2.trans hc) hi hf
    | ptP p B o f n hk hc hf => exact .ptP p B o f n (e1.trans hk) (e2.trans hc) hf
  have k1' := k1.drop0 k2
  obtain ⟨B, off, arr, T, m1, m2, m3, _, m5⟩ := pt_read k1' hpv1 hr hrow
  have hkids : ∀ j, j < n → (kid nd (i, f + j)).isSome = true := by
    intro j hj
    obtain ⟨c, hc⟩ : ∃ c, cs[f + j]? = some c := ⟨cs[f + j], List.getElem?_eq_getElem (by omega)⟩
    obtain ⟨nd', q1, q2⟩ := row_kid hr hc
    rw [hnd] at q1; cases q1; rw [q2]; rfl
  have hlv : (cellsV (a.eval y)).length = n := by omega
  have hca : cellAddr (κ1 p) nd (i, f) = some (B, off) := by simpa using m5 nd hnd 0
  have hw := HR.writeL hp0 (cellsV (a.eval y)) f off w (wr0 H1 us) nd k1 (by rw [cellAt_wr0 _ _ hpz]; exact hnd) (fun j hj => hkids j (by omega)) hca
  rw [putL_wr0 us hp0 hpz] at hw
  obtain ⟨r1, arr', r2, r3, r4⟩ := Keep.setCells (cellsV (a.eval y)) off w arr m2 (by omega)
  obtain ⟨nd', n1, n2, n3⟩ := putL_node hp0 ((cellsV (a.eval y)).map fun _ => TV.junk) f H1 nd hnd
  have hjl : ((cellsV (a.eval y)).map fun _ => TV.junk).length = us.length := by simp; omega
  obtain ⟨κ2, γ2, L', q1, q2, q3⟩ := HR.fillL hp0 hpz r2 us (cellsV (a.eval y)) f off 0 us _ nd' κ1 γ1 hw (putL_nil _ _ _ k2) (by omega)
    (fun k u v hu hv => by simp only [Nat.zero_add]; exact ⟨hu, k4 k v hv⟩) n1 (fun k hk => by rw [n3]; exact hkids k (by omega)) (by rw [n2]; exact hca)
    (fun k v hv => by rw [r4 k v hv]; rfl)
  rw [putL_junk p i hp0 _ us f H1 hjl] at q1 q2
  have q1' := q1.drop0 q2
  have hst := run_storeAt (P := P) (t := t) (B := B) (off := off) (v := a.eval y) (arr := arr) (T := T) (by rw [hn, hlv]) m2 (by omega) gone
  have hrun : (execOp a.eval o).run P w = .ok .skip (w.setCells B off (cellsV (a.eval y))) := by
    simp only [execOp, hop, Sem.run_bind, m1, hst, Result.andThen_ok, Sem.run_pure]
  have n1 : ∀ b, κ2 [(1, b)] = F.k1 b := fun b => (q3 _ (fun k _ hh => by
    have := hh.length_le
    cases p with
    | nil => exact hp0 rfl
    | cons s0 r0 => simp at this)).trans ((k5 _ (by simp)).trans (h6 b))
  have keepq : ∀ q, (under ds q || under ((List.range n).map fun j => p ++ [(i, f + j)]) q) = false → (∀ k, k < us.length → ¬ p ++ [(i, f + k)] <+: q) ∧ ∀ p' ∈ ds, ¬ p' <+: q := by
    intro q hq
    simp only [Bool.or_eq_false_iff] at hq
    exact ⟨fun k hk => under_false hq.2 (p ++ [(i, f + k)]) (List.mem_map.2 ⟨k, List.mem_range.2 (by omega), rfl⟩), under_false hq.1⟩
  refine ⟨B, off, m1, hlv, gone, hrun, Rel.put q1' q2 h3 hd h5 n1 (fun q m hq hl => ?_) (fun _ => .pure _ _ (.junk _)) fun k => ?_⟩
  · obtain ⟨s, r, rfl, hcase⟩ := orgPut_some hq hl
    rcases hcase with ⟨hn, _⟩ | ⟨_, hdd, hq⟩
    · cases hn
    · obtain ⟨u2, u1⟩ := keepq _ hdd
      rw [live_iff, putL_shape us f H1 u2, k6 _ u1] at hl
      have n0 := live_notroot h2 hl
      rw [q3 _ u2, k5 _ n0]
      exact h7 _ _ hq ((live_iff _ _).2 hl)
  refine (h4 k).kill _ (K := fun b o' => b ≠ B ∨ o' < off ∨ off + (cellsV (a.eval y)).length ≤ o') (fun q hq hl => ?_) r1 (fun b o' ha => ?_)
  · simp only [Bool.or_eq_false_iff] at hq
    have u1 := under_false hq.1
    have u2 : ∀ k, k < us.length → ¬ p ++ [(i, f + k)] <+: q := fun k hk => under_false hq.2 (p ++ [(i, f + k)]) (List.mem_map.2 ⟨k, List.mem_range.2 (by omega), rfl⟩)
    have n0 := live_notroot h2 hl
    exact ⟨(q3 q u2).trans (k5 q n0), (putL_shape us f H1 u2).trans (k6 q u1)⟩
  · -- what is only read is not written
    by_cases hh : b ≠ B ∨ o' < off ∨ off + (cellsV (a.eval y)).length ≤ o'
    · exact hh
    · exfalso
      have hb' : b = B := by
        by_cases hbb : b = B
        · exact hbb
        · exact absurd (.inl hbb) hh
      subst hb'
      have hex : ∃ j, j < n ∧ o' = off + j := by
        refine ⟨o' - off, ?_, ?_⟩
        · omega
        · omega
      obtain ⟨j, hj, rfl⟩ := hex
      obtain ⟨u0, hu0⟩ := Option.isSome_iff_exists.1 (hkids j hj)
      obtain ⟨B1, off1, arr1, T1, c1, c2, _⟩ := k1'.cell hnd hu0
      rw [m5 nd hnd j] at c1
      simp only [Option.some.injEq, Prod.mk.injEq] at c1
      obtain ⟨rfl, rfl⟩ := c1
      exact k1'.notA c2 ha

theorem good_store {t tx ty : TypeId} {x y : Operand} {x' y' : TOpd} {n : Nat} (hop : o.op = .store t x y) (hn : tySize P t = some n) (hx : compOpd P tx x = some x') (hy : compOpd P ty y = some y')
    (hd : ∀ d, o.dst = some d → d < F.N) (hE : opW P st root (.store n x' y') (· = E)) : Good P F o st E := by
  intro a w K Q hR hK
  obtain ⟨B, off, _, _, _, hrun, hRel⟩ := store_at hop hn hx hR (fun κ h4 => opd_rv hy h4) hd hE
  unfold Oper.wp
  rw [hrun, Oper.upon_skip]
  exact hK _ _ hRel
end
end Go.Proofs.YtloodkhdngipbaaT
