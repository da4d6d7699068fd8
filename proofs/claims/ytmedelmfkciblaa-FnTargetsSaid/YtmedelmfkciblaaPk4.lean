/- Texts of this session's own, one behind the other: TmL, TmM, TmN, TmO, TmP, TmQ, TmR, TmS, TmT. -/
import Derived.Test.YtmedelmfkciblaaPk3
import Derived.Laws.AppendOwn
namespace Go.Proofs.YtmedelmfkciblaaT
set_option linter.unusedVariables false
set_option linter.unusedSimpArgs false
open Go
section
variable {P : Program} {F : Fr} {st : St} {w w' w0 : World} {S0 : Nat → Nat → Prop} {κ κ' : Path → Value} {γ γ' : Nat → Nat → Option Path} {H H1 : Hp} {A K : Nat → Nat → Prop} {o : Oper} {E : Eff} {root : Nat}
theorem take1_fit {c u : TV} {d : List Path} (ht : take1 H c = some (u, H1, d)) : c ≠ .junk ∧ (∀ vs, c ≠ .tu vs) ∧ isAg c = false := by
 refine ⟨?_, ?_, ?_⟩
 ·rintro rfl; simp [take1, noref] at ht
 ·rintro vs rfl; simp [take1, noref] at ht
 ·cases c with
  | ag cs => simp [take1, noref] at ht
  | _ => rfl
theorem takeL_fit : ∀ {cs us : List TV} {H H1 : Hp} {d : List Path}, takeL cs H = some (us, H1, d) → ∀ c ∈ cs, c ≠ .junk ∧ (∀ vs, c ≠ .tu vs) ∧ isAg c = false
 | [], us, H, H1, d, ht, c, hc => by cases hc
 | c0 :: cs, us, H, H1, d, ht, c, hc => by
  simp only [takeL, Option.bind_eq_some_iff, Option.some.injEq, Prod.mk.injEq] at ht
  obtain ⟨⟨u, H2, d2⟩, h1, ⟨us', H3, d3⟩, h2, _, _, _⟩ := ht
  cases hc with
  | head => exact take1_fit h1
  | tail _ hc => exact takeL_fit h2 c hc
theorem oneCell_of {c : TV} {v : Value} (h : RV w κ H A c v) (hc : c ≠ .junk ∧ (∀ vs, c ≠ .tu vs) ∧ isAg c = false) : v.oneCell' = true := by
 obtain ⟨h1, h2, h3⟩ := hc
 cases h with
 | pure u v h => cases h with
  | junk => exact absurd rfl h1
  | pin v h => exact h
  | _ => rfl
 | ag => cases h3
 | tu cs => exact absurd rfl (h2 cs)
 | _ => rfl
theorem takeV {x : TV} {v : Value} {us : List TV} {d : List Path} (h : HR w0 S0 A w κ γ H) (h0 : H 0 = []) (hx : RV w κ H A x v) (ht : takeL (cellsT x) H = some (us, H1, d)) :
  (cellsT x).length = (cellsV v).length ∧ (∀ y ∈ cellsV v, y.oneCell' = true) ∧ ∃ κ' γ', HR w0 S0 A w κ' γ' (wr0 H1 us) ∧ H1 0 = [] ∧ us.length = (cellsV v).length ∧ (∀ (j : Nat) (y : Value), (cellsV v)[j]? = some y → κ' [(0, j)] = y) ∧
   (∀ q, (∀ j r, q ≠ (0, j) :: r) → κ' q = κ q) ∧ (∀ q, (∀ p ∈ d, ¬ p <+: q) → shapeAt H1 q = shapeAt H q) ∧ (∀ q, Live H1 q → ∀ p ∈ d, ¬ p <+: q) := by
 have hfit := takeL_fit ht
 have hn : isAg x = true ∨ (∀ vs, x ≠ .tu vs) := by
  by_cases hg : isAg x = true
  ·exact .inl hg
  ·refine .inr fun vs hh => ?_
   subst hh
   exact (hfit (.tu vs) (by simp [cellsT])).2.1 vs rfl
 obtain ⟨hl, hc⟩ := rv_cells hx (fun c hc => (hfit c hc).1) hn
 have hH : HR w0 S0 A w κ γ (wr0 H []) := by rw [wr0_self h0]; exact h
 obtain ⟨κ', γ', k1, k2, k3, k4, k5, k6, k7, k8⟩ := takeL_ok (cellsT x) (cellsV v) [] us H H1 κ γ d hH h0 hl (fun j c y hj hy => (hc j c y hj hy).rs) ht
 refine ⟨hl, fun y hy => ?_, κ', γ', by simpa using k1, k2, k3.trans hl, fun j y hy => by simpa using k4 j y hy, fun q hq => k5 q (fun j r hh => hq _ _ (by simpa using hh)), k6, k8⟩
 obtain ⟨j, hj⟩ := List.getElem?_of_mem hy
 have hlt : j < (cellsT x).length := by have := (List.getElem?_eq_some_iff.1 hj).1; omega
 have hjc : (cellsT x)[j]? = some (cellsT x)[j] := List.getElem?_eq_getElem hlt
 exact oneCell_of (hc j _ y hjc hj) (hfit _ (List.getElem_mem hlt))
theorem cells_toList (v : Value) : v.cells.toList = cellsV v := by cases v <;> rfl
theorem norg_val {c : TV} {y : Value} {m : Nat} {k1 : Nat → Value} (hv : RV w κ st.H A c y) (hm : norgOf st c = some m) (h6 : ∀ b, κ [(1, b)] = k1 b) (h7 : ∀ q m, st.org q = some m → Live st.H q → κ q = k1 m) : y = k1 m := by
 have key : ∀ p, orgOf st p = some m → Live st.H p → κ p = k1 m := by
  intro p hp hl
  unfold orgOf at hp
  split at hp
  ·rename_i s
   obtain ⟨s1, s2⟩ := s
   split at hp
   ·rename_i h1
    simp only at h1; subst h1
    simp only [Option.some.injEq] at hp; subst hp
    exact h6 _
   ·exact h7 _ _ hp hl
  ·exact h7 _ _ hp hl
 unfold norgOf at hm
 split at hm
 ·rename_i p len
  split at hm
  case isFalse => cases hm
  rename_i hs
  cases hv with
  | pure u v h => cases h
  | rf0 p z off hk hc => rw [← key _ hm ((live_iff _ _).2 (by rw [hc]; rfl)), hk]
  | rf p z n c B o off len' hk hc hb hn =>
   rw [hc] at hs
   simp only [Option.map_some, Option.some.injEq] at hs
   subst hs
   rw [← key _ hm ((live_iff _ _).2 (by rw [hc]; rfl)), hk]
   simp
  | rfE p z n c B o off o1 c1 hk hc g1 g2 g3 => exact absurd rfl g3
 ·rename_i p
  split at hm
  case isFalse => cases hm
  rename_i hs
  cases hv with
  | pure u v h => cases h
  | ptS p z n c B o i f hk hc hi hf => rw [hc] at hs; simp at hs
  | ptP p B o f n hk hc hf => rw [← key _ hm ((live_iff _ _).2 (by rw [hc]; rfl)), hk]; rfl
 ·cases hm
theorem good_box {x' : TOpd} {n : Nat} (e : TypeId) (xv : Act → Value) (hxv : ∀ (a : Act) (w : World) κ, (∀ k, RV w κ st.H F.A (st.t k) ((a.tmps[k]?).getD undef)) → RV w κ st.H F.A (x'.ev st) (xv a))
  (hrun : ∀ (a : Act) (w : World), (execOp a.eval o).run P w = .ok (.value (.pointer (some ⟨w.heap.size, 0, none⟩))) (w.alloc (.cells (xv a).cells e)))
  (hd : ∀ d, o.dst = some d → d < F.N) (hE : opW P st root (.box n x') (· = E)) : Good P F o st E := by
 simp only [opW] at hE
 split at hE
 case h_2 => exact hE.elim
 rename_i us H1 ds ht
 obtain ⟨hn, hroot, hr0, rfl⟩ := hE
 intro a w K Q hR hK
 obtain ⟨κ, γ, h1, h2, h3, h4, h5, h6, h7⟩ := hR
 unfold Oper.wp
 rw [hrun, Oper.upon_value]
 refine hK _ _ ?_
 obtain ⟨g1, _, κ', γ', k1, k2, k3, k4, k5, k6, k8⟩ := takeV h1 h2 (hxv a w κ h4) ht
 have hsz : (xv a).cells.size = us.length := by rw [k3, ← cells_toList]; simp
 have hnf := k1.newFlat (T := e) (root := root) (arr := (xv a).cells) (z := us.length) (u := .po true us) (v := .pointer (some ⟨w.heap.size, 0, none⟩)) k2 (by omega) (by
  intro k c hc
  have hlt : k < (xv a).cells.size := by rw [hsz]; exact (List.getElem?_eq_some_iff.1 hc).1
  have e1 : (cellsV (xv a))[k]? = some (xv a).cells[k] := by rw [← cells_toList, Array.getElem?_toList]; simp [hlt]
  rw [k4 k _ e1]; simp [hlt]) (.inl ⟨rfl, rfl, rfl⟩) hsz
 have h8 : ∀ (f m : Nat), ((cellsT (x'.ev st)).map (norgOf st))[f]? = some (some m) → grpκ κ' root us.length (.pointer (some ⟨w.heap.size, 0, none⟩)) [(root, 0), (0, f)] = F.k1 m := by
  intro f m hf
  rw [List.getElem?_map] at hf
  cases hc : (cellsT (x'.ev st))[f]? with
  | none => simp [hc] at hf
  | some c =>
  have hm : norgOf st c = some m := by simpa [hc] using hf
  obtain ⟨f1, f2⟩ := rv_cells (hxv a w κ h4) (fun c hc => (takeL_fit ht c hc).1) (by
   by_cases hg : isAg (x'.ev st) = true
   ·exact .inl hg
   ·refine .inr fun vs hh => ?_
    exact (takeL_fit ht (.tu vs) (by rw [hh]; simp [cellsT])).2.1 vs rfl)
  have hlt : f < (cellsV (xv a)).length := by have := (List.getElem?_eq_some_iff.1 hc).1; omega
  have hy := List.getElem?_eq_getElem hlt
  have := norg_val (f2 f c _ hc hy) hm h6 h7
  rw [← this, ← k4 f _ hy]
  simp [grpκ]
 refine Rel.fresh (K := fun _ _ => True) h2 k2 hroot hr0 h3 hd h5 h6 h7 h8 h4 hnf (fun q q0 q1 => (grpκ_other q q1).trans (k5 q q0)) k6 (Keep.alloc _ _ _) (fun _ _ _ => trivial) fun _ => ?_
 exact .ptP [(root, 0)] _ 0 0 us.length grpκ_root (by simp [shapeAt, cellAt, setRoot, down, shape]) (Nat.zero_le _)
theorem run_newRow (e : TypeId) (cs : Array Value) : (newRow e cs).run P w = .ok ⟨w.heap.size, 0, none⟩ (w.alloc (.cells cs e)) := by
 simp [newRow]
theorem good_alloc {e : TypeId} {zv : Value} {u : TV} (hop : o.op = .alloc e) (hz : tyZero P e = some zv) (hu : valT P e zv = some u)
  (hd : ∀ d, o.dst = some d → d < F.N) (hE : opW P st root (.box (cellsT u).length (.c u)) (· = E)) : Good P F o st E := by
 refine good_box e (fun _ => zv) (fun a w κ _ => valT_rv hu) (fun a w => ?_) hd hE
 simp only [execOp, hop, Instr.alloc, Sem.run_bind, run_zero w hz, Result.andThen_ok, newVar, run_newRow, Sem.run_pure]
theorem good_boxop {e : TypeId} {x : Operand} {x' : TOpd} {tx : TypeId} {n : Nat} (hop : o.op = .box e x) (hx : compOpd P tx x = some x')
  (hd : ∀ d, o.dst = some d → d < F.N) (hE : opW P st root (.box n x') (· = E)) : Good P F o st E := by
 refine good_box e (fun a => a.eval x) (fun a w κ ht => opd_rv hx ht) (fun a w => ?_) hd hE
 simp only [execOp, hop, Instr.box, Sem.run_bind, Result.andThen_ok, newVar, run_newRow, Sem.run_pure]
theorem run_storeAt {t : TypeId} {B off : Nat} {v : Value} {arr : Array Value} {T : TypeId} (hn : tySize P t = some (cellsV v).length) (hb : w.heap[B]? = some (.cells arr T (0, 0))) (hs : off + (cellsV v).length ≤ arr.size)
  (h1 : ∀ y ∈ cellsV v, y.oneCell' = true) : (Instr.storeAt t (.pointer (some ⟨B, off, none⟩)) v).run P w = .ok () (w.setCells B off (cellsV v)) := by
 have hlen : v.cells.size = (cellsV v).length := by rw [← cells_toList]; simp
 have hc : ∀ j, j < (cellsV v).length → (w.cell? ⟨B, off + j, none⟩).isSome = true := by
  intro j hj
  rw [cell_of hb]; simp; omega
 have hf : ∀ j, j < (cellsV v).length → w.frozen? ⟨B, off + j, none⟩ = false := by
  intro j hj
  simp [World.frozen?, hb]
 have := run_storeCells_cells (P := P) B off (cellsV v) 0 w (fun j hj => by simpa using hc j hj) (fun j hj => by simpa using hf j hj) h1
 simp only [Nat.add_zero] at this
 simp [Instr.storeAt, Instr.sureAddr, storeVar, run_size w hn, hlen, cells_toList, this]
theorem upk_upk (φ ψ : TV → TV) (s : Nat × Nat) (u : TV) : upk φ s (upk ψ s u) = upk (fun x => φ (ψ x)) s u := by
 cases u with
 | sl own z es =>
  cases own
  ·rfl
  ·simp only [upk, List.modify_modify_eq]
   congr 2
   funext e
   simp only [Function.comp_def, List.modify_modify_eq]
 | po own cs =>
  cases own
  ·rfl
  ·simp only [upk]
   by_cases h : s.1 = 0
   ·simp only [h, if_true, List.modify_modify_eq]; rfl
   ·simp [h]
 | _ => rfl
theorem upk_comm (φ ψ : TV → TV) (i f f' : Nat) (h : f ≠ f') (u : TV) : upk φ (i, f) (upk ψ (i, f') u) = upk ψ (i, f') (upk φ (i, f) u) := by
 cases u with
 | sl own z es =>
  cases own
  ·rfl
  ·simp only [upk, List.modify_modify_eq]
   congr 2
   funext e
   simp only [Function.comp_def]
   exact (List.modify_modify_ne _ _ _ (Ne.symm h))
 | po own cs =>
  cases own
  ·rfl
  ·simp only [upk]
   by_cases hi : i = 0
   ·simp only [hi, if_true]
    congr 1
    exact (List.modify_modify_ne _ _ _ (Ne.symm h))
   ·simp [hi]
 | _ => rfl
theorem modd_snoc (φ : TV → TV) (s : Nat × Nat) : ∀ r : Path, modd φ (r ++ [s]) = modd (upk φ s) r
 | [] => rfl
 | s0 :: r => by funext u; simp only [List.cons_append, modd, modd_snoc φ s r]
theorem modd_modd (φ ψ : TV → TV) : ∀ (r : Path) (u : TV), modd φ r (modd ψ r u) = modd (fun x => φ (ψ x)) r u
 | [], _ => rfl
 | s :: r, u => by
  simp only [modd, upk_upk]
  congr 1
  funext x
  exact modd_modd φ ψ r x
theorem modH_snoc (φ : TV → TV) (p : Path) (s : Nat × Nat) (hp : p ≠ []) (H : Hp) : modH H φ (p ++ [s]) = modH H (upk φ s) p := by
 cases p with
 | nil => exact absurd rfl hp
 | cons s0 r => simp only [List.cons_append, modH, modd_snoc]
theorem modH_modH (φ ψ : TV → TV) (p : Path) (H : Hp) : modH (modH H ψ p) φ p = modH H (fun x => φ (ψ x)) p := by
 cases p with
 | nil => rfl
 | cons s r =>
  funext y
  simp only [modH]
  by_cases h : y = s.1
  ·simp only [h, if_true, List.modify_modify_eq]
   congr 1
   funext u
   exact modd_modd φ ψ r u
  ·simp [h]
def putF (i : Nat) : Nat → List TV → TV → TV
 | _, [], x => x
 | f, u :: us, x => putF i (f + 1) us (upk (fun _ => u) (i, f) x)
theorem modH_id (p : Path) (H : Hp) : modH H (fun x => x) p = H := by
 have hid : ∀ (r : Path) (u : TV), modd (fun x => x) r u = u := by
  intro r
  induction r with
  | nil => intro u; rfl
  | cons s r ih =>
   intro u
   have : modd (fun x => x) r = id := by funext x; exact ih x
   cases u with
   | sl own z es =>
    cases own
    ·rfl
    ·simp only [modd, upk, this]
     have e1 : (fun e : List TV => e.modify s.2 id) = id := by funext e; exact List.modify_id _ _
     rw [e1, List.modify_id]
   | po own cs =>
    cases own
    ·rfl
    ·simp [modd, upk, this]
   | _ => rfl
 cases p with
 | nil => rfl
 | cons s r =>
  funext y
  simp only [modH]
  have : modd (fun x => x) r = id := by funext x; exact hid r x
  by_cases h : y = s.1 <;> simp [h, this]
theorem putL_eq (p : Path) (i : Nat) (hp : p ≠ []) : ∀ (us : List TV) (f : Nat) (H : Hp), putL p i f us H = modH H (putF i f us) p
 | [], f, H => (modH_id p H).symm
 | u :: us, f, H => by
  simp only [putL]
  rw [putL_eq p i hp us (f + 1), modH_snoc _ _ _ hp, modH_modH]
  rfl
theorem putF_comm (i : Nat) (u : TV) : ∀ (us : List TV) (f f' : Nat) (x : TV), f < f' → putF i f' us (upk (fun _ => u) (i, f) x) = upk (fun _ => u) (i, f) (putF i f' us x)
 | [], _, _, _, _ => rfl
 | v :: us, f, f', x, h => by
  simp only [putF]
  rw [upk_comm _ _ i f' f (by omega), putF_comm i u us f (f' + 1) _ (by omega)]
theorem putF_putF (i : Nat) : ∀ (us vs : List TV) (f : Nat) (x : TV), us.length = vs.length → putF i f vs (putF i f us x) = putF i f vs x
 | [], [], _, _, _ => rfl
 | u :: us, v :: vs, f, x, h => by
  simp only [putF]
  rw [← putF_comm i v us f (f + 1) _ (by omega), upk_upk]
  exact putF_putF i us vs (f + 1) _ (by simpa using h)
 | [], _ :: _, _, _, h => by simp at h
 | _ :: _, [], _, _, h => by simp at h
theorem putL_junk (p : Path) (i : Nat) (hp : p ≠ []) (us vs : List TV) (f : Nat) (H : Hp) (h : us.length = vs.length) : putL p i f vs (putL p i f us H) = putL p i f vs H := by
 rw [putL_eq p i hp, putL_eq p i hp, putL_eq p i hp, modH_modH]
 congr 1
 funext x
 exact putF_putF i us vs f x h
theorem putL_nil {p : Path} {i : Nat} {r : Nat} : ∀ (us : List TV) (f : Nat) (H : Hp), H r = [] → putL p i f us H r = []
 | [], _, _, h => h
 | u :: us, f, H, h => putL_nil us (f + 1) _ (modH_nil _ h)
theorem putL_shape {p : Path} {i : Nat} {q : Path} : ∀ (us : List TV) (f : Nat) (H : Hp), (∀ k, k < us.length → ¬ p ++ [(i, f + k)] <+: q) → shapeAt (putL p i f us H) q = shapeAt H q
 | [], _, _, _ => rfl
 | u :: us, f, H, h => by
  simp only [putL]
  rw [putL_shape us (f + 1) _ (fun k hk => by have := h (k + 1) (by simp; omega); rwa [show f + 1 + k = f + (k + 1) by omega])]
  exact shapeAt_modH _ _ _ _ (by simpa using h 0 (by simp))
theorem putL_node {p : Path} {i : Nat} (hp : p ≠ []) : ∀ (us : List TV) (f : Nat) (H : Hp) (nd : TV), cellAt H p = some nd →
  ∃ nd', cellAt (putL p i f us H) p = some nd' ∧ (∀ k s, cellAddr k nd' s = cellAddr k nd s) ∧ (∀ s, (kid nd' s).isSome = (kid nd s).isSome)
 | [], _, _, nd, h => ⟨nd, h, fun _ _ => rfl, fun _ => rfl⟩
 | u :: us, f, H, nd, h => by
  obtain ⟨nd', h1, h2, h3⟩ := putL_node hp us (f + 1) (modH H (fun _ => u) (p ++ [(i, f)])) (upk (fun _ => u) (i, f) nd) (by rw [kid_mod _ _ _ hp, h]; rfl)
  refine ⟨nd', h1, fun k s => (h2 k s).trans (cellAddr_upk _ _ _ _ _), fun s => (h3 s).trans ?_⟩
  by_cases hs : s = (i, f)
  ·subst hs; rw [kid_upk_same]; cases kid nd (i, f) <;> rfl
  ·rw [kid_upk_ne _ _ _ _ hs]
theorem putL_wr0 {p : Path} {i : Nat} (L : List TV) (hp : p ≠ []) (hpz : ∀ j r, p ≠ (0, j) :: r) : ∀ (us : List TV) (f : Nat) (H : Hp), putL p i f us (wr0 H L) = wr0 (putL p i f us H) L
 | [], _, _ => rfl
 | u :: us, f, H => by
  simp only [putL]
  rw [modH_wr0 _ _ _ (by
   intro j r hh
   cases p with
   | nil => exact hp rfl
   | cons s0 r0 => simp only [List.cons_append, List.cons.injEq] at hh; exact hpz j r0 (by rw [hh.1]))]
  exact putL_wr0 L hp hpz us (f + 1) _
theorem store_at {t tx : TypeId} {x y : Operand} {x' y' : TOpd} {n : Nat} {a : Act} {w : World} (hop : o.op = .store t x y) (hn : tySize P t = some n) (hx : compOpd P tx x = some x')
  (hR : Rel F st a w) (hyv : ∀ κ, (∀ k, RV w κ st.H F.A (st.t k) ((a.tmps[k]?).getD undef)) → RV w κ st.H F.A (y'.ev st) (a.eval y))
  (hd : ∀ d, o.dst = some d → d < F.N) (hE : opW P st root (.store n x' y') (· = E)) :
  ∃ B off, a.eval x = .pointer (some ⟨B, off, none⟩) ∧ (cellsV (a.eval y)).length = n ∧ (∀ z ∈ cellsV (a.eval y), z.oneCell' = true) ∧
   (execOp a.eval o).run P w = .ok .skip (w.setCells B off (cellsV (a.eval y))) ∧ Rel F (st.put o.dst E) (a.put o.dst undef) (w.setCells B off (cellsV (a.eval y))) := by
 simp only [opW] at hE
 split at hE
 case h_2 => exact hE.elim
 rename_i p i f hb
 split at hE
 case h_2 => exact hE.elim
 rename_i us H1 ds ht
 obtain ⟨hlen, hrow, rfl⟩ := hE
 split at hrow
 case h_2 => exact hrow.elim
 rename_i cs hr
 obtain ⟨κ, γ, h1, h2, h3, h4, h5, h6, h7⟩ := hR
 have hpv := opd_rv hx h4; rw [hb] at hpv
 obtain ⟨g1, gone, κ1, γ1, k1, k2, k3, k4, k5, k6, k8⟩ := takeV h1 h2 (hyv κ h4) ht
 have hcell : ∃ nd, cellAt H1 p = some nd ∧ (shape nd).isSome = true := by
  simp only [rowAt, Option.bind_eq_some_iff] at hr
  obtain ⟨es, ⟨nd, q1, q2⟩, q3⟩ := hr
  refine ⟨nd, q1, ?_⟩
  unfold rows at q2
  split at q2 <;> first | rfl | cases q2
 obtain ⟨nd, hnd, hsh⟩ := hcell
 have hp0 : p ≠ [] := node_ne hr
 have hpz := not0_of_live k2 hnd
 have hpd : ∀ p' ∈ ds, ¬ p' <+: p := k8 p ⟨nd, hnd, hsh⟩
 have hpv1 : RV w κ1 H1 F.A (.pt p i f) (a.eval x) := by
  have e1 := k5 p hpz
  have e2 := k6 p hpd
  generalize a.eval x = v at hpv
  cases hpv with
  | pure u v h => cases h
  | ptS p z n c B o i f hk hc hi hf => exact .ptS p z n c B o i f (e1.trans hk) (e2.trans hc) hi hf
  | ptP p B o f n hk hc hf => exact .ptP p B o f n (e1.trans hk) (e2.trans hc) hf
 have k1' := k1.drop0 k2
 obtain ⟨B, off, arr, T, m1, m2, m3, _, m5⟩ := pt_read k1' hpv1 hr hrow
 have hkids : ∀ j, j < n → (kid nd (i, f + j)).isSome = true := by
  intro j hj
  obtain ⟨c, hc⟩ : ∃ c, cs[f + j]? = some c := ⟨cs[f + j], List.getElem?_eq_getElem (by omega)⟩
  obtain ⟨nd', q1, q2⟩ := row_kid hr hc
  rw [hnd] at q1; cases q1; rw [q2]; rfl
 have hlv : (cellsV (a.eval y)).length = n := by omega
 have hca : cellAddr (κ1 p) nd (i, f) = some (B, off) := by simpa using m5 nd hnd 0
 have hw := HR.writeL hp0 (cellsV (a.eval y)) f off w (wr0 H1 us) nd k1 (by rw [cellAt_wr0 _ _ hpz]; exact hnd) (fun j hj => hkids j (by omega)) hca
 rw [putL_wr0 us hp0 hpz] at hw
 obtain ⟨r1, arr', r2, r3, r4⟩ := Keep.setCells (cellsV (a.eval y)) off w arr m2 (by omega)
 obtain ⟨nd', n1, n2, n3⟩ := putL_node hp0 ((cellsV (a.eval y)).map fun _ => TV.junk) f H1 nd hnd
 have hjl : ((cellsV (a.eval y)).map fun _ => TV.junk).length = us.length := by simp; omega
 obtain ⟨κ2, γ2, L', q1, q2, q3⟩ := HR.fillL hp0 hpz r2 us (cellsV (a.eval y)) f off 0 us _ nd' κ1 γ1 hw (putL_nil _ _ _ k2) (by omega)
  (fun k u v hu hv => by simp only [Nat.zero_add]; exact ⟨hu, k4 k v hv⟩) n1 (fun k hk => by rw [n3]; exact hkids k (by omega)) (by rw [n2]; exact hca)
  (fun k v hv => by rw [r4 k v hv]; rfl)
 rw [putL_junk p i hp0 _ us f H1 hjl] at q1 q2
 have q1' := q1.drop0 q2
 have hst := run_storeAt (P := P) (t := t) (B := B) (off := off) (v := a.eval y) (arr := arr) (T := T) (by rw [hn, hlv]) m2 (by omega) gone
 have hrun : (execOp a.eval o).run P w = .ok .skip (w.setCells B off (cellsV (a.eval y))) := by
  simp only [execOp, hop, Sem.run_bind, m1, hst, Result.andThen_ok, Sem.run_pure]
 have n1 : ∀ b, κ2 [(1, b)] = F.k1 b := fun b => (q3 _ (fun k _ hh => by
  have := hh.length_le
  cases p with
  | nil => exact hp0 rfl
  | cons s0 r0 => simp at this)).trans ((k5 _ (by simp)).trans (h6 b))
 have keepq : ∀ q, (under ds q || under ((List.range n).map fun j => p ++ [(i, f + j)]) q) = false → (∀ k, k < us.length → ¬ p ++ [(i, f + k)] <+: q) ∧ ∀ p' ∈ ds, ¬ p' <+: q := by
  intro q hq
  simp only [Bool.or_eq_false_iff] at hq
  exact ⟨fun k hk => under_false hq.2 (p ++ [(i, f + k)]) (List.mem_map.2 ⟨k, List.mem_range.2 (by omega), rfl⟩), under_false hq.1⟩
 refine ⟨B, off, m1, hlv, gone, hrun, Rel.put q1' q2 h3 hd h5 n1 (fun q m hq hl => ?_) (fun _ => .pure _ _ (.junk _)) fun k => ?_⟩
 ·obtain ⟨s, r, rfl, hcase⟩ := orgPut_some hq hl
  rcases hcase with ⟨hn, _⟩ | ⟨_, hdd, hq⟩
  ·cases hn
  ·obtain ⟨u2, u1⟩ := keepq _ hdd
   rw [live_iff, putL_shape us f H1 u2, k6 _ u1] at hl
   have n0 := live_notroot h2 hl
   rw [q3 _ u2, k5 _ n0]
   exact h7 _ _ hq ((live_iff _ _).2 hl)
 refine (h4 k).kill _ (K := fun b o' => b ≠ B ∨ o' < off ∨ off + (cellsV (a.eval y)).length ≤ o') (fun q hq hl => ?_) r1 (fun b o' ha => ?_)
 ·simp only [Bool.or_eq_false_iff] at hq
  have u1 := under_false hq.1
  have u2 : ∀ k, k < us.length → ¬ p ++ [(i, f + k)] <+: q := fun k hk => under_false hq.2 (p ++ [(i, f + k)]) (List.mem_map.2 ⟨k, List.mem_range.2 (by omega), rfl⟩)
  have n0 := live_notroot h2 hl
  exact ⟨(q3 q u2).trans (k5 q n0), (putL_shape us f H1 u2).trans (k6 q u1)⟩
 ·
  by_cases hh : b ≠ B ∨ o' < off ∨ off + (cellsV (a.eval y)).length ≤ o'
  ·exact hh
  ·exfalso
   have hb' : b = B := by
    by_cases hbb : b = B
    ·exact hbb
    ·exact absurd (.inl hbb) hh
   subst hb'
   have hex : ∃ j, j < n ∧ o' = off + j := by
    refine ⟨o' - off, ?_, ?_⟩
    ·omega
    ·omega
   obtain ⟨j, hj, rfl⟩ := hex
   obtain ⟨u0, hu0⟩ := Option.isSome_iff_exists.1 (hkids j hj)
   obtain ⟨B1, off1, arr1, T1, c1, c2, _⟩ := k1'.cell hnd hu0
   rw [m5 nd hnd j] at c1
   simp only [Option.some.injEq, Prod.mk.injEq] at c1
   obtain ⟨rfl, rfl⟩ := c1
   exact k1'.notA c2 ha
theorem good_store {t tx ty : TypeId} {x y : Operand} {x' y' : TOpd} {n : Nat} (hop : o.op = .store t x y) (hn : tySize P t = some n) (hx : compOpd P tx x = some x') (hy : compOpd P ty y = some y')
  (hd : ∀ d, o.dst = some d → d < F.N) (hE : opW P st root (.store n x' y') (· = E)) : Good P F o st E := by
 intro a w K Q hR hK
 obtain ⟨B, off, _, _, _, hrun, hRel⟩ := store_at hop hn hx hR (fun κ h4 => opd_rv hy h4) hd hE
 unfold Oper.wp
 rw [hrun, Oper.upon_skip]
 exact hK _ _ hRel
end
end Go.Proofs.YtmedelmfkciblaaT


namespace Go.Proofs.YtmedelmfkciblaaT
set_option linter.unusedVariables false
set_option linter.unusedSimpArgs false
open Go
section
variable {P : Program} {F : Fr} {st : St} {w w' w0 : World} {S0 : Nat → Nat → Prop} {κ κ' : Path → Value} {γ γ' : Nat → Nat → Option Path} {H H1 : Hp} {A K : Nat → Nat → Prop} {o : Oper} {E : Eff} {root : Nat}
def AllGood (P : Program) : Prop := ∀ (F : Fr) (o : Oper) (to : TOp) (st : St) (root : Nat) (E : Eff), compOp P o = some to → (∀ d, o.dst = some d → d < F.N) → opW P st root to (· = E) → Good P F o st E
theorem binT_one {op : BinOp} {x y : TV} {K : TV → Prop} (h : binT op x y K) : ∃ v, binT op x y (· = v) ∧ K v := by
 unfold binT at h ⊢
 split at h
 ·cases op <;> simp only at h ⊢ <;> first
   | exact ⟨_, ⟨h.1, h.2.1, rfl⟩, h.2.2⟩
   | exact ⟨_, ⟨h.1, rfl⟩, h.2⟩
 ·cases op <;> simp only at h ⊢ <;> first
   | exact ⟨_, ⟨h.1, rfl⟩, h.2⟩
   | exact ⟨_, rfl, h⟩
   | exact h.elim
 ·cases op <;> simp only at h ⊢ <;> first
   | exact ⟨_, rfl, h⟩
   | exact h.elim
 ·exact h.elim
theorem optB_one {d : Int} {x : Option TOpd} {K : Int → Prop} (h : optB st d x K) : ∃ i, optB st d x (· = i) ∧ K i ∧ ∀ K' : Int → Prop, K' i → optB st d x K' := by
 cases x with
 | none => exact ⟨d, rfl, h, fun _ h => h⟩
 | some x =>
  simp only [optB] at h ⊢
  split at h
  ·exact ⟨_, rfl, h, fun _ h => h⟩
  ·exact h.elim
theorem callW_one {st : St} {g : FuncId} {as : List (TV × Nat)} {K : Eff → Prop} (h : callW P st root g as K) : ∃ E, callW P st root g as (· = E) ∧ K E := by
 obtain ⟨al, ms, args, res, outs, hc, hr1, hr2, tk, H1, ds, ps, ro, h1, h2, h3, h4, h7⟩ := h
 exact ⟨_, ⟨al, ms, args, res, outs, hc, hr1, hr2, tk, H1, ds, ps, ro, h1, h2, h3, h4, rfl⟩, h7⟩
theorem opW_one {op : TOp} {K : Eff → Prop} (h : opW P st root op K) : ∃ E, opW P st root op (· = E) ∧ K E := by
 cases op with
 | call g args => exact callW_one h
 | callv f args =>
  simp only [opW] at h ⊢
  split at h
  ·obtain ⟨E, h1, h2⟩ := callW_one h.2
   exact ⟨E, ⟨h.1, h1⟩, h2⟩
  ·exact h.elim
 | bin o x y =>
  simp only [opW] at h ⊢
  obtain ⟨v, h1, h2⟩ := binT_one h
  refine ⟨val st v, ?_, h2⟩
  revert h1
  generalize x.ev st = a; generalize y.ev st = b
  intro h1
  unfold binT at h1 ⊢
  split at h1
  ·cases o <;> simp only at h1 ⊢ <;> first
    | exact ⟨h1.1, h1.2.1, by rw [h1.2.2]⟩
    | exact ⟨h1.1, by rw [h1.2]⟩
  ·cases o <;> simp only at h1 ⊢ <;> first
    | exact ⟨h1.1, by rw [h1.2]⟩
    | (rw [h1])
    | exact h1.elim
  ·cases o <;> simp only at h1 ⊢ <;> first
    | (rw [h1])
    | exact h1.elim
  ·exact h1.elim
 | slice str z x lo hi =>
  cases str with
  | true =>
   simp only [opW] at h ⊢
   split at h
   case h_2 => exact h.elim
   obtain ⟨l, _, h, hl⟩ := optB_one h
   obtain ⟨u, _, h, hu⟩ := optB_one h
   exact ⟨_, hl _ (hu _ ⟨h.1, h.2.1, h.2.2.1, rfl⟩), h.2.2.2⟩
  | false =>
   simp only [opW] at h ⊢
   split at h
   ·obtain ⟨hz, h⟩ := h
    obtain ⟨l, _, h, hl⟩ := optB_one h
    obtain ⟨u, _, h, hu⟩ := optB_one h
    exact ⟨_, ⟨hz, hl _ (hu _ ⟨h.1, h.2.1, h.2.2.1, rfl⟩)⟩, h.2.2.2⟩
   ·obtain ⟨l, _, h, hl⟩ := optB_one h
    obtain ⟨u, _, h, hu⟩ := optB_one h
    exact ⟨_, hl _ (hu _ ⟨h.1, h.2.1, rfl⟩), h.2.2⟩
   ·obtain ⟨hz, h⟩ := h
    obtain ⟨l, _, h, hl⟩ := optB_one h
    obtain ⟨u, _, h, hu⟩ := optB_one h
    exact ⟨_, ⟨hz, hl _ (hu _ ⟨h.1, h.2.1, h.2.2.1, rfl⟩)⟩, h.2.2.2⟩
   ·exact h.elim
 | load g n a =>
  simp only [opW] at h ⊢
  split at h
  ·split at h
   ·obtain ⟨h1, h⟩ := h
    cases g with
    | true => exact ⟨_, ⟨h1, rfl⟩, h⟩
    | false => exact ⟨_, ⟨h1, h.1, rfl⟩, h.2⟩
   ·exact h.elim
  ·obtain ⟨h1, h⟩ := h
   cases g with
   | true => exact ⟨_, ⟨h1, rfl⟩, h⟩
   | false => exact ⟨_, ⟨h1, h.1, rfl⟩, h.2⟩
  ·exact h.elim
 | fld g off n x =>
  simp only [opW] at h ⊢
  split at h
  ·obtain ⟨h1, h⟩ := h
   cases g with
   | true => exact ⟨_, ⟨h1, rfl⟩, h⟩
   | false => exact ⟨_, ⟨h1, h.1, rfl⟩, h.2⟩
  ·exact h.elim
 | pick c a b =>
  simp only [opW] at h ⊢
  split at h
  ·exact ⟨_, rfl, h⟩
  ·exact h.elim
 | maxi x y =>
  simp only [opW] at h ⊢
  split at h
  ·exact ⟨_, rfl, h⟩
  ·exact h.elim
 | box n x =>
  simp only [opW] at h ⊢
  split at h
  ·exact ⟨_, ⟨h.1, h.2.1, h.2.2.1, rfl⟩, h.2.2.2⟩
  ·exact h.elim
 | bslice z len zero parts =>
  simp only [opW] at h ⊢
  split at h
  ·split at h
   ·exact ⟨_, ⟨h.1, h.2.1, h.2.2.1, rfl⟩, h.2.2.2⟩
   ·exact h.elim
  ·exact h.elim
 | app z bytes s x =>
  simp only [opW] at h ⊢
  split at h
  ·split at h
   ·exact ⟨_, ⟨h.1, h.2.1, h.2.2.1, h.2.2.2.1, h.2.2.2.2.1, rfl⟩, h.2.2.2.2.2⟩
   ·exact h.elim
  ·exact h.elim
 | mv x => exact ⟨_, rfl, h⟩
 | mkfn g caps => exact ⟨_, rfl, h⟩
 | _ =>
  simp only [opW] at h ⊢
  repeat' split at h
  all_goals first
   | exact h.elim
   | exact ⟨_, rfl, h⟩
   | exact ⟨_, ⟨h.1, rfl⟩, h.2⟩
   | exact ⟨_, ⟨h.1, h.2.1, rfl⟩, h.2.2⟩
   | exact ⟨_, ⟨h.1, h.2.1, h.2.2.1, rfl⟩, h.2.2.2⟩
   | exact ⟨_, ⟨h.1, h.2.1, h.2.2.1, h.2.2.2.1, rfl⟩, h.2.2.2.2⟩
   | exact ⟨_, ⟨h.1, h.2.1, h.2.2.1, h.2.2.2.1, h.2.2.2.2.1, rfl⟩, h.2.2.2.2.2⟩
   | exact ⟨_, ⟨h.1, h.2.1, h.2.2.1, h.2.2.2.1, h.2.2.2.2.1, h.2.2.2.2.2.1, rfl⟩, h.2.2.2.2.2.2⟩
   | exact ⟨_, ⟨h.1, h.2.1, h.2.2.1, h.2.2.2.1, h.2.2.2.2.1, h.2.2.2.2.2.1, h.2.2.2.2.2.2.1, rfl⟩, h.2.2.2.2.2.2.2⟩
theorem gB_ok {u : TV} {o : Option Value} {want x : Bool} (hx : gB want u = some x) (hv : RV w κ H A u (o.getD undef)) :
  ((match (generalizing := false) o with | some (.bool b) => some b | _ => none : Option Bool) == some want) = x := by
 cases u <;> simp only [gB, Option.some.injEq, reduceCtorEq] at hx
 case b y =>
  have h := rv_b hv
  cases o with
  | none => simp [undef] at h
  | some v => simp at h; subst h; rw [← hx]; rfl
 case tu vs =>
  subst hx
  cases o with
  | none => rfl
  | some v =>
   simp only [Option.getD_some] at hv
   cases hv with
   | pure u v h => cases h
   | tu => rfl
theorem rel_undef {dst : Option Nat} {a : Act} (hR : Rel F st a w) (hd : ∀ d, dst = some d → d < F.N) : Rel F (st.undef dst) (a.put dst undef) w := by
 obtain ⟨κ, γ, h1, h2, h3, h4, h5, h6, h7⟩ := hR
 refine ⟨κ, γ, h1, h2, ?_, fun k => ?_, ?_, h6, h7⟩
 ·cases dst <;> simp [Act.put, h3]
 ·cases dst with
  | none => simpa [St.undef, Act.put] using h4 k
  | some d =>
   rw [put_get _ _ _ (by rw [h3]; exact hd d rfl)]
   by_cases hk : d = k
   ·subst hk; simp only [St.undef, if_true]; exact .tu [] #[] rfl (by simp)
   ·simp only [St.undef, Option.some.injEq, hk, if_false]; exact h4 k
 ·cases dst <;> exact h5
theorem ops_ok (hall : AllGood P) {N rid : Nat} {ops : Array Oper} {Q : Exit → Act → World → Prop} (hN : F.N = N) :
  ∀ (l : List Oper) (k : Nat) (tl : List TOper) (st : St) (a : Act) (w : World) (TQ : St → Prop), compOps P N rid ops k l = some tl → Rel F st a w → opsW P tl st TQ →
   (∀ st a w, Rel F st a w → TQ st → Q .normal a w) → wpList P ops Q l a w
 | [], k, tl, st, a, w, TQ, hc, hR, hT, hQ => by
  simp only [compOps, Option.some.injEq] at hc; subst hc
  exact hQ st a w hR hT
 | o :: os, k, tl, st, a, w, TQ, hc, hR, hT, hQ => by
  simp only [compOps, Option.bind_eq_some_iff] at hc
  obtain ⟨top, h1, tg, h2, hc⟩ := hc
  split at hc
  case isFalse => cases hc
  rename_i hdst
  simp only [Option.bind_eq_some_iff, Option.some.injEq] at hc
  obtain ⟨tl', h3, rfl⟩ := hc
  have hd : ∀ d, o.dst = some d → d < F.N := by
   intro d hd
   rw [hd] at hdst
   rw [hN]; simpa [dstOk] using hdst
  simp only [opsW] at hT
  generalize rootOf rid k o.dst = root at hT
  have hwant : ∃ b, Region.wanted o (yielded ops a.tmps) = b ∧ ((b = true → opW P st root top fun E => opsW P tl' (st.put o.dst E) TQ) ∧ (b = false → opsW P tl' (st.undef o.dst) TQ)) := by
   unfold compGuard at h2
   split at h2
   ·rename_i hg
    simp only [Option.some.injEq] at h2; subst h2
    exact ⟨true, by simp [Region.wanted, hg], hT⟩
   ·rename_i j want hg
    simp only [Option.bind_eq_some_iff, Option.some.injEq] at h2
    obtain ⟨t, ⟨oj, hoj, htj⟩, rfl⟩ := h2
    simp only [wantW] at hT
    split at hT
    case h_2 => exact hT.elim
    rename_i x hx
    obtain ⟨κ, γ, r1, r2, r3, r4, r5, r6, r7⟩ := hR
    have hv := r4 t
    refine ⟨x, ?_, hT⟩
    simp only [Region.wanted, hg, yielded, hoj, htj, Option.bind_some]
    exact gB_ok hx hv
  obtain ⟨b, hb, ht1, ht2⟩ := hwant
  unfold wpList
  rw [hb]
  cases b with
  | true =>
   simp only [if_true]
   obtain ⟨E, hE, hK⟩ := opW_one (ht1 rfl)
   exact .inl (hall F o top st root E h1 hd hE a w _ _ hR fun a' w' hR' => ops_ok hall hN os (k + 1) tl' _ a' w' TQ h3 hR' hK hQ)
  | false =>
   simp only [Bool.false_eq_true, if_false]
   exact ops_ok hall hN os (k + 1) tl' _ _ w TQ h3 (rel_undef hR hd) (ht2 rfl) hQ
theorem RV.dropR {u : TV} {v : Value} (rs : List Nat) (h : RV w κ H A u v) :
  RV w κ (fun y => if rs.contains y then [] else H y) A (killT (fun q => match q.head? with | some s => rs.contains s.1 | none => false) u) v := by
 refine h.kill (K := fun _ _ => True) _ (fun q hq hl => ⟨rfl, ?_⟩) (Keep.refl _ w) (fun _ _ _ => trivial)
 cases q with
 | nil => rfl
 | cons s r =>
  simp only [List.head?_cons] at hq
  have hq' : ¬ s.1 ∈ rs := by simpa using hq
  simp [shapeAt, cellAt, hq']
theorem rel_drop {a : Act} (rs : List Nat) (h0 : 0 ∉ rs) (hR : Rel F st a w) : Rel F (st.drop rs) a w := by
 obtain ⟨κ, γ, h1, h2, h3, h4, h5, h6, h7⟩ := hR
 refine ⟨κ, γ, ⟨fun s u hu => ?_, h1.own, h1.old, h1.chg⟩, by simp [St.drop, h2], h3, fun k => (h4 k).dropR rs, h5, h6, fun q m hq hl => h7 q m hq ?_⟩
 ·simp only [St.drop] at hu
  split at hu
  ·simp at hu
  ·exact h1.root s u hu
 ·obtain ⟨x, hx, hs⟩ := hl
  cases q with
  | nil => cases hx
  | cons s r =>
   refine ⟨x, ?_, hs⟩
   simp only [St.drop, cellAt] at hx ⊢
   split at hx
   ·simp at hx
   ·exact hx
theorem renTL_eq {a b : Nat} (cs : List TV) : renTL a b cs = cs.map (renT a b) := by
 induction cs with
 | nil => rfl
 | cons c cs ih => simp [renTL, ih]
theorem RV.renR {κ' : Path → Value} {H' : Hp} {a b : Nat} {u : TV} {v : Value} (h : RV w κ H A u v) (hd : ∀ q, (shapeAt H q).isSome = true → κ' (renP a b q) = κ q ∧ shapeAt H' (renP a b q) = shapeAt H q) : RV w κ' H' A (renT a b u) v := by
 induction h with
 | pure u v h =>
  have : renT a b u = u := by
   have key : ∀ (u : TV) (v : Value), RR w A u v → renT a b u = u := by
    intro u v h
    induction h with
    | fn g caps capv hl hc ih =>
     have : ∀ (cs : List TV), (∀ u ∈ cs, renT a b u = u) → renTL a b cs = cs := by
      intro cs
      induction cs with
      | nil => intro _; rfl
      | cons c cs ihc => intro h; simp only [renTL]; rw [h c (by simp), ihc fun u hu => h u (by simp [hu])]
     simp only [renT]
     rw [this caps fun u hu => by
      obtain ⟨j, hj⟩ := List.getElem?_of_mem hu
      exact ih j u hj]
    | _ => rfl
   exact key u v h
  rw [this]; exact .pure u v h
 | nil z => exact .nil z
 | rf0 p z off hk' hc =>
  obtain ⟨h1, h2⟩ := hd p (by rw [hc]; rfl)
  exact .rf0 _ z off (h1.trans hk') (h2.trans hc)
 | rf p z n c B o off len hk' hc hb hn =>
  obtain ⟨h1, h2⟩ := hd p (by rw [hc]; rfl)
  exact .rf _ z n c B o off len (h1.trans hk') (h2.trans hc) hb hn
 | rfE p z n c B o off o1 c1 hk' hc g1 g2 g3 =>
  obtain ⟨h1, h2⟩ := hd p (by rw [hc]; rfl)
  exact .rfE _ z n c B o off o1 c1 (h1.trans hk') (h2.trans hc) g1 g2 g3
 | ptS p z n c B o i f hk' hc hi hf =>
  obtain ⟨h1, h2⟩ := hd p (by rw [hc]; rfl)
  exact .ptS _ z n c B o i f (h1.trans hk') (h2.trans hc) hi hf
 | ptP p B o f n hk' hc hf =>
  obtain ⟨h1, h2⟩ := hd p (by rw [hc]; rfl)
  exact .ptP _ B o f n (h1.trans hk') (h2.trans hc) hf
 | ag cs vs hl hc ih =>
  refine .ag _ _ (by rw [renTL_eq]; simpa using hl) fun j u hj => ?_
  rw [renTL_eq, List.getElem?_map] at hj
  cases hx : cs[j]? with
  | none => simp [hx] at hj
  | some x => simp only [hx, Option.map_some, Option.some.injEq] at hj; subst hj; exact ih j x hx
 | tu cs vs hl hc ih =>
  refine .tu _ _ (by rw [renTL_eq]; simpa using hl) fun j u hj => ?_
  rw [renTL_eq, List.getElem?_map] at hj
  cases hx : cs[j]? with
  | none => simp [hx] at hj
  | some x => simp only [hx, Option.map_some, Option.some.injEq] at hj; subst hj; exact ih j x hx
 | fn g caps capv hl hc ih =>
  refine .fn g _ _ (by rw [renTL_eq]; simpa using hl) fun j u hj => ?_
  rw [renTL_eq, List.getElem?_map] at hj
  cases hx : caps[j]? with
  | none => simp [hx] at hj
  | some x => simp only [hx, Option.map_some, Option.some.injEq] at hj; subst hj; exact ih j x hx
theorem rel_ren {a : Act} {x y : Nat} (hx : 2 ≤ x) (hy : 2 ≤ y) (hxy : x ≠ y) (hH : st.H y = []) (hR : Rel F st a w) : Rel F (st.ren x y) a w := by
 obtain ⟨κ, γ, h1, h2, h3, h4, h5, h6, h7⟩ := hR
 obtain ⟨κ', hκ'⟩ : ∃ κ' : Path → Value, κ' = fun q => match q with | [] => κ [] | s :: r => if s.1 = y then κ ((x, s.2) :: r) else κ (s :: r) := ⟨_, rfl⟩
 have k1 : ∀ s r, s.1 ≠ y → κ' (renP x y (s :: r)) = κ (s :: r) := by
  intro s r hs
  rw [hκ']
  simp only [renP]
  by_cases h : s.1 = x
  ·obtain ⟨s1, s2⟩ := s; simp only at h; subst h; simp
  ·simp [h, hs]
 have kroot : ∀ (s : Nat × Nat) (r : Path), (renH x y st.H (if s.1 = x then (y, s.2) else s).1) = st.H s.1 ∨ s.1 = y := by
  intro s r
  by_cases h : s.1 = x
  ·left; simp [h, renH]
  ·by_cases h2 : s.1 = y
   ·exact .inr h2
   ·left; simp [h, renH, h2]
 have kcell : ∀ s r, s.1 ≠ y → cellAt (renH x y st.H) (renP x y (s :: r)) = cellAt st.H (s :: r) := by
  intro s r hs
  rcases kroot s r with h | h
  ·simp only [renP, cellAt, h]
   by_cases h' : s.1 = x
   ·simp [h']
   ·simp [h']
  ·exact absurd h hs
 have khead : ∀ q, (shapeAt st.H q).isSome = true → ∃ s r, q = s :: r ∧ s.1 ≠ y := by
  intro q hq
  cases q with
  | nil => simp [shapeAt, cellAt] at hq
  | cons s r =>
   refine ⟨s, r, rfl, fun h => ?_⟩
   simp [shapeAt, cellAt, h, hH] at hq
 refine ⟨κ', fun b o => (γ b o).map (renP x y), ⟨fun s u hu => ?_, fun b o q hq => ?_, h1.old, h1.chg⟩, ?_, h3, fun k => ?_, h5, fun b => ?_, fun q m hq hl => ?_⟩
 ·obtain ⟨i, j⟩ := s
  simp only [St.ren, renH] at hu
  by_cases hi : i = y
  ·subst hi
   simp only [if_true] at hu
   have ht := h1.root (x, j) u hu
   have e : κ' [(i, j)] = κ [(x, j)] := by rw [hκ']; simp
   rw [e]
   refine ht.ren (K := fun _ _ => True) [(i, j)] (fun r nd _ _ => ⟨?_, fun b o hb => ⟨?_, trivial⟩⟩) (Keep.refl _ w) (fun _ _ _ => trivial) (fun _ _ h => h)
   ·rw [hκ']; simp
   ·rw [hb]; simp [renP]
  ·simp only [hi, if_false] at hu
   by_cases hi2 : i = x
   ·subst hi2; simp at hu
   ·simp only [hi2, if_false] at hu
    have ht := h1.root (i, j) u hu
    have e : κ' [(i, j)] = κ [(i, j)] := by rw [hκ']; simp [hi]
    rw [e]
    refine ht.ren (K := fun _ _ => True) [(i, j)] (fun r nd _ _ => ⟨?_, fun b o hb => ⟨?_, trivial⟩⟩) (Keep.refl _ w) (fun _ _ _ => trivial) (fun _ _ h => h)
    ·rw [hκ']; simp [hi]
    ·rw [hb]; simp [renP, hi2]
 ·cases hb : γ b o with
  | none => rw [hb] at hq; cases hq
  | some q0 => exact h1.own b o q0 hb
 ·show renH x y st.H 0 = []
  simp only [renH, show (0 : Nat) ≠ y by omega, show (0 : Nat) ≠ x by omega, if_false, h2]
 ·refine (h4 k).renR fun q hq => ?_
  obtain ⟨s, r, rfl, hs⟩ := khead q hq
  exact ⟨k1 s r hs, by simp only [shapeAt]; rw [show (st.ren x y).H = renH x y st.H from rfl, kcell s r hs]⟩
 ·rw [← h6 b, hκ']; simp [show (1 : Nat) ≠ y by omega]
 ·cases q with
  | nil => obtain ⟨z, hz, _⟩ := hl; cases hz
  | cons s r =>
   simp only [St.ren, renO] at hq
   by_cases hs : s.1 = y
   ·simp only [hs, if_true] at hq
    have e : κ' (s :: r) = κ ((x, s.2) :: r) := by rw [hκ']; simp [hs]
    rw [e]
    refine h7 _ m hq ?_
    obtain ⟨z, hz, hsz⟩ := hl
    refine ⟨z, ?_, hsz⟩
    have := kcell (x, s.2) r hxy
    obtain ⟨s1, s2⟩ := s
    simp only at hs; subst hs
    simp only [renP, if_true] at this
    rw [← this]; exact hz
   ·simp only [hs, if_false] at hq
    by_cases hs2 : s.1 = x
    ·simp [hs2] at hq
    ·simp only [hs2, if_false] at hq
     have e : κ' (s :: r) = κ (s :: r) := by rw [hκ']; simp [hs]
     rw [e]
     refine h7 _ m hq ?_
     obtain ⟨z, hz, hsz⟩ := hl
     refine ⟨z, ?_, hsz⟩
     have := kcell s r hs
     simp only [renP, hs2, if_false] at this
     rw [← this]; exact hz
theorem rel_rens {a : Act} : ∀ {mv : List (Nat × Nat)} {st : St}, renOk st mv → Rel F st a w → Rel F (st.rens mv) a w
 | [], _, _, hR => hR
 | (x, y) :: mv, st, ⟨⟨h1, h2, h3, h4⟩, h5⟩, hR => rel_rens (mv := mv) h5 (rel_ren h1 h2 h3 h4 hR)
def exitOf : TExit → Exit
 | .normal => .normal
 | .exit id => .exit id
 | .ret => .ret
def DrawsGood (P : Program) : Prop := ∀ (F : Fr) (rid : Nat) (ops : Array Oper) (l : List TOper) (st : St) (a : Act) (w : World) (TQ : St → Prop) (Q : Exit → Act → World → Prop),
 compDraw P F.N rid ops = some l → Rel F st a w → drawW P l [] st TQ → (∀ st a w, Rel F st a w → TQ st → Q .normal a w) → (Code.region rid ops true).wp P Q a w
theorem code_ok (hall : AllGood P) (hdr : DrawsGood P) {N : Nat} (hN : F.N = N) :
  ∀ (c : Code) (tc : TCode) (st : St) (a : Act) (w : World) (TQ : TExit → St → Prop) (Q : Exit → Act → World → Prop), compCode P N c = some tc → Rel F st a w → twp P tc TQ st →
   (∀ e st a w, Rel F st a w → TQ e st → Q (exitOf e) a w) → c.wp P Q a w := by
 intro c
 induction c with
 | skip =>
  intro tc st a w TQ Q hc hR hT hQ
  simp only [compCode, Option.some.injEq] at hc; subst hc
  exact wp_skip (hQ .normal st a w hR hT)
 | region id ops draw =>
  intro tc st a w TQ Q hc hR hT hQ
  cases draw with
  | true =>
   simp only [compCode, Option.bind_eq_some_iff, Option.some.injEq] at hc
   obtain ⟨l, h1, rfl⟩ := hc
   exact hdr F id ops l st a w _ Q (by rw [hN]; exact h1) hR hT fun st a w hR hq => hQ .normal st a w hR hq
  | false =>
   simp only [compCode, Option.bind_eq_some_iff, Option.some.injEq] at hc
   obtain ⟨l, h1, rfl⟩ := hc
   exact wp_region_list (ops_ok hall hN ops.toList 0 l st a w (TQ .normal) h1 hR hT fun st a w hR hq => hQ .normal st a w hR hq)
 | seq x y ihx ihy =>
  intro tc st a w TQ Q hc hR hT hQ
  simp only [compCode, Option.bind_eq_some_iff, Option.some.injEq] at hc
  obtain ⟨tx, h1, ty, h2, rfl⟩ := hc
  refine wp_seq (ihx tx st a w _ _ h1 hR hT fun e st a w hR hq => ?_)
  cases e with
  | normal => exact ihy ty st a w TQ Q h2 hR hq hQ
  | exit id => exact hQ (.exit id) st a w hR hq
  | ret => exact hQ .ret st a w hR hq
 | cond c x y ihx ihy =>
  intro tc st a w TQ Q hc hR hT hQ
  simp only [compCode, Option.bind_eq_some_iff, Option.some.injEq] at hc
  obtain ⟨tcnd, h0, tx, h1, ty, h2, rfl⟩ := hc
  simp only [twp] at hT
  split at hT
  case h_2 => exact hT.elim
  rename_i b hb
  have hv := opd_rv (a := a) h0 hR.choose_spec.choose_spec.2.2.2.1
  rw [hb] at hv
  refine wp_cond_split (rv_b hv) (fun ht => ihx tx st a w TQ Q h1 hR (hT.1 ht) hQ) (fun hf => ihy ty st a w TQ Q h2 hR (hT.2 hf) hQ)
 | block id x ih =>
  intro tc st a w TQ Q hc hR hT hQ
  simp only [compCode, Option.bind_eq_some_iff, Option.some.injEq] at hc
  obtain ⟨tx, h1, rfl⟩ := hc
  refine wp_block (ih tx st a w _ _ h1 hR hT fun e st a w hR hq => ?_)
  cases e with
  | normal => exact hQ .normal st a w hR hq
  | ret => exact hQ .ret st a w hR hq
  | exit i =>
   simp only [exitOf, Exit.inBlock] at hq ⊢
   split at hq
   ·rename_i h; simp only [h, if_true]; exact hQ .normal st a w hR hq
   ·rename_i h; simp only [h, if_false]; exact hQ (.exit i) st a w hR hq
 | loop x ih =>
  intro tc st a w TQ Q hc hR hT hQ
  simp only [compCode, Option.bind_eq_some_iff, Option.some.injEq] at hc
  obtain ⟨tx, h1, rfl⟩ := hc
  obtain ⟨I, rs, mv, h0, hmv, ⟨n0, hI⟩, hround⟩ := hT
  classical
  let J : Act → World → Nat → Prop := fun a w n => ∃ s, Rel F s a w ∧ I n s
  have hex : ∀ a w, (∃ n, J a w n) → ∃ n, J a w n ∧ ∀ m, J a w m → n ≤ m := by
   intro a w ⟨n, hn⟩
   induction n using Nat.strongRecOn with
   | _ n ihn =>
    by_cases hm : ∃ m, m < n ∧ J a w m
    ·obtain ⟨m, hm1, hm2⟩ := hm
     exact ihn m hm1 hm2
    ·exact ⟨n, hn, fun m hm' => by
      rcases Nat.lt_or_ge m n with h | h
      ·exact absurd ⟨m, h, hm'⟩ hm
      ·exact h⟩
  let μ : Act → World → Nat := fun a w => if h : ∃ n, J a w n then (hex a w h).choose else 0
  refine wp_loop (fun a w => ∃ n, J a w n) μ ⟨n0, _, rel_rens hmv (rel_drop rs h0 hR), hI⟩ fun a w hJ => ?_
  have hμ : J a w (μ a w) := by
   simp only [μ, hJ, dif_pos]; exact (hex a w hJ).choose_spec.1
  obtain ⟨s, hRs, hIs⟩ := hμ
  refine ih tx s a w _ _ h1 hRs (hround _ s hIs) fun e st' a' w' hR' hq => ?_
  cases e with
  | normal =>
   obtain ⟨m, hm, hIm⟩ := hq
   have hJ' : J a' w' m := ⟨_, rel_drop rs h0 hR', hIm⟩
   refine ⟨⟨m, hJ'⟩, ?_⟩
   have hex' : ∃ n, J a' w' n := ⟨m, hJ'⟩
   have : μ a' w' ≤ m := by
    simp only [μ, hex', dif_pos]; exact (hex a' w' hex').choose_spec.2 m hJ'
   omega
  | exit id => exact hQ (.exit id) st' a' w' hR' hq
  | ret => exact hQ .ret st' a' w' hR' hq
 | exit id =>
  intro tc st a w TQ Q hc hR hT hQ
  simp only [compCode, Option.some.injEq] at hc; subst hc
  exact wp_exit (hQ (.exit id) st a w hR hT)
 | ret =>
  intro tc st a w TQ Q hc hR hT hQ
  simp only [compCode, Option.some.injEq] at hc; subst hc
  exact wp_ret (hQ .ret st a w hR hT)
 | _ => intro tc st a w TQ Q hc; simp [compCode] at hc
def refArg (b : Nat) : TV → TV
 | .ag cs => .ag (refsFrom [] 1 b cs)
 | u => toRef [(1, b)] u
def initT : Nat → List Mode → List TV → List TV
 | b, .ro :: ms, u :: us => u :: initT b ms us
 | b, _ :: ms, u :: us => refArg b u :: initT (b + (cellsT u).length) ms us
 | _, _, _ => []
def initSt (ms : List Mode) (args : List TV) : St where
 t := fun k => ((initT 0 ms args)[k]?).getD .junk
 H := fun r => if r = 1 then ownCells ms args else []
 org := fun _ => none
mutual
def noRO : TV → Bool
 | .sl own _ es => (own || es.isEmpty) && noROLL es
 | .po own cs => own && noROL cs
 | .fn _ cs => noROL cs
 | .b _ | .i .. | .f _ | .s _ | .np | .junk | .pin _ | .rf .. | .pt .. | .ag _ | .tu _ => true
def noROL : List TV → Bool
 | [] => true
 | u :: us => noRO u && noROL us
def noROLL : List (List TV) → Bool
 | [] => true
 | e :: es => noROL e && noROLL es
end
inductive TRes where
 | tmp (t : Nat)
 | cell (t : Nat) (agg : Bool) (n : Nat)
def resTmps (P : Program) : List ResultVar → Option (List TRes)
 | [] => some []
 | .tmp t :: rs => (resTmps P rs).bind fun ts => some (.tmp t :: ts)
 | .cell a t :: rs => (tyAgg P t).bind fun g => (tySize P t).bind fun n => (resTmps P rs).bind fun ts => if g || n == 1 then some (.cell a g n :: ts) else none
def loadT (H : Hp) (g : Bool) (n : Nat) : TV → Option TV
 | .pt p i f => (rowAt H p i).bind fun cs => if f + n ≤ cs.length then
   if g then some (.ag (refsFrom p i f ((cs.drop f).take n))) else some ((refsFrom p i f ((cs.drop f).take 1)).headD .junk) else none
 | _ => none
def resTV (st : St) : TRes → Option TV
 | .tmp t => some (st.t t)
 | .cell t g n => loadT st.H g n (st.t t)
def backs (st : St) : Nat → List (Option Path) → List TV → List (Option TV) → Prop
 | m, some q :: gq, l :: ls, some u :: os => l = u ∧ (shape u).isSome = true ∧ (q = [(1, m)] ∨ st.org q = some m) ∧ backs st (m + 1) gq ls os
 | m, none :: gq, _ :: ls, none :: os => backs st (m + 1) gq ls os
 | _, [], [], [] => True
 | _, _, _, _ => False
def ghostRef (H : Hp) : Option Path → TV
 | none => .np
 | some q => match cellAt H q with
  | some (.sl true _ es) => .rf q 0 es.length
  | some (.po true _) => .pt q 0 0
  | _ => .junk
def outsNoRO (os : List (Option TV)) : Bool := os.all fun o => o.elim true noRO
def endW (al : Bool) (res : List TV) (outs : List (Option TV)) (gq : List (Option Path)) (rt : List TRes) : TExit → St → Prop
 | .exit _, _ => False
 | _, st => ∃ tvs us H1 ds ls H2 ds2, optAll (rt.map (resTV st)) = some tvs ∧ takeL (tvs.flatMap cellsT) st.H = some (us, H1, ds) ∧ us = res.flatMap cellsT ∧
   tvs.map isAg = res.map isAg ∧ tvs.map (fun u => (cellsT u).length) = res.map (fun u => (cellsT u).length) ∧
   takeL (gq.map (ghostRef H1)) H1 = some (ls, H2, ds2) ∧ backs st 0 gq ls outs ∧ (al = false → us.all noRO = true ∧ outsNoRO outs = true)
end
end Go.Proofs.YtmedelmfkciblaaT


namespace Go.Proofs.YtmedelmfkciblaaT
set_option linter.unusedVariables false
set_option linter.unusedSimpArgs false
open Go
section
variable {P : Program} {F : Fr} {st : St} {w w' w0 : World} {S0 : Nat → Nat → Prop} {κ κ' : Path → Value} {γ γ' : Nat → Nat → Option Path} {H H1 : Hp} {A K : Nat → Nat → Prop} {o : Oper} {E : Eff} {root : Nat}
theorem RV.noheap {u : TV} {v : Value} (h : RV w κ (fun _ => []) A u v) : RV w κ' H A u v := by
 refine h.mono (K := fun _ _ => True) (fun q hq => ?_) (Keep.refl _ w) (fun _ _ _ => trivial)
 cases q with
 | nil => simp [shapeAt, cellAt] at hq
 | cons s r => simp [shapeAt, cellAt] at hq
theorem isAg_cells {u : TV} {v : Value} (h1 : isAg u = isAgV v) (h2 : isAg u = false) : cellsT u = [u] ∧ cellsV v = [v] := by
 refine ⟨?_, ?_⟩
 ·cases u <;> first | rfl | cases h2
 ·rw [h2] at h1
  cases v <;> first | rfl | cases h1
theorem initT_rv : ∀ (ms : List Mode) (args : List TV) (vs : List Value) (b : Nat), args.length = vs.length → ms.length = args.length →
  (∀ (j : Nat) (u : TV) (v : Value), ms[j]? ≠ some .ro → args[j]? = some u → vs[j]? = some v → isAg u = isAgV v ∧ (cellsT u).length = (cellsV v).length) →
  (∀ (j : Nat) (u : TV) (v : Value), ms[j]? = some .ro → args[j]? = some u → vs[j]? = some v → RV w κ (fun _ => []) A u v) →
  (∀ (m : Nat) (c : TV), (ownCells ms args)[m]? = some c → TR w κ γ A [(1, b + m)] c (κ [(1, b + m)]) ∧ cellAt H [(1, b + m)] = some c) →
  (∀ (m : Nat) (v : Value), (ownVals ms vs)[m]? = some v → κ [(1, b + m)] = v) →
  ∀ (j : Nat) (v : Value), vs[j]? = some v → ∃ u, (initT b ms args)[j]? = some u ∧ RV w κ H A u v
 | [], [], [], _, _, _, _, _, _, _, j, v, hj => by simp at hj
 | m :: ms, u :: us, v :: vs, b, hl, hm, hag, hro, hown, hval, j, x, hj => by
  have own : m ≠ .ro → initT b (m :: ms) (u :: us) = refArg b u :: initT (b + (cellsT u).length) ms us ∧
    ownCells (m :: ms) (u :: us) = cellsT u ++ ownCells ms us ∧ ownVals (m :: ms) (v :: vs) = cellsV v ++ ownVals ms vs := by
   intro h; cases m <;> first | exact absurd rfl h | exact ⟨rfl, rfl, rfl⟩
  by_cases hmr : m = .ro
  ·subst hmr
   cases j with
   | zero =>
    simp at hj; subst hj
    exact ⟨u, rfl, (hro 0 u v rfl rfl rfl).noheap⟩
   | succ j =>
    simp only [initT, List.getElem?_cons_succ]
    exact initT_rv ms us vs b (by simpa using hl) (by simpa using hm) (fun j u v hz h1 h2 => hag (j + 1) u v (by simpa using hz) (by simpa using h1) (by simpa using h2)) (fun j u v h0 h1 h2 => hro (j + 1) u v (by simpa using h0) (by simpa using h1) (by simpa using h2)) hown hval j x (by simpa using hj)
  ·obtain ⟨e1, e2, e3⟩ := own hmr
   rw [e2] at hown; rw [e3] at hval; rw [e1]
   obtain ⟨g1, g2⟩ := hag 0 u v (by simpa using hmr) rfl rfl
   have cell : ∀ (k : Nat) (c : TV) (y : Value), (cellsT u)[k]? = some c → (cellsV v)[k]? = some y → RV w κ H A (toRef [(1, b + k)] c) y := by
    intro k c y hc hy
    have hlt := (List.getElem?_eq_some_iff.1 hc).1
    have hlt2 := (List.getElem?_eq_some_iff.1 hy).1
    obtain ⟨t1, t2⟩ := hown k c (by rw [List.getElem?_append_left hlt]; exact hc)
    have t3 := hval k y (by rw [List.getElem?_append_left hlt2]; exact hy)
    rw [t3] at t1
    exact toRef_rv t1 t2
   cases j with
   | zero =>
    simp at hj; subst hj
    refine ⟨_, rfl, ?_⟩
    cases hu : isAg u with
    | true =>
     obtain ⟨cs, rfl⟩ : ∃ cs, u = .ag cs := by cases u <;> first | exact ⟨_, rfl⟩ | cases hu
     rw [hu] at g1
     obtain ⟨vs', rfl⟩ : ∃ cs, v = .agg cs := by cases v <;> first | exact ⟨_, rfl⟩ | cases g1
     refine .ag _ _ (by rw [refsFrom_len]; simpa [cellsT, cellsV] using g2) fun k c hc => ?_
     rw [refsFrom_get] at hc
     cases hk : cs[k]? with
     | none => simp [hk] at hc
     | some c0 =>
      simp only [hk, Option.map_some, Option.some.injEq] at hc
      subst hc
      have hlt := (List.getElem?_eq_some_iff.1 hk).1
      have hlt2 : k < vs'.size := by simp [cellsT, cellsV] at g2; omega
      have := cell k c0 vs'[k] hk (by simp [cellsV, hlt2])
      simpa [hlt2] using this
    | false =>
     obtain ⟨q1, q2⟩ := isAg_cells g1 hu
     have := cell 0 u v (by rw [q1]; rfl) (by rw [q2]; rfl)
     have e2 : refArg b u = toRef [(1, b)] u := by cases u <;> first | rfl | cases hu
     rw [e2]; exact this
   | succ j =>
    simp only [List.getElem?_cons_succ]
    refine initT_rv ms us vs _ (by simpa using hl) (by simpa using hm) (fun j u v hz h1 h2 => hag (j + 1) u v (by simpa using hz) (by simpa using h1) (by simpa using h2)) (fun j u v h0 h1 h2 => hro (j + 1) u v (by simpa using h0) (by simpa using h1) (by simpa using h2)) (fun m c hc => ?_) (fun m y hy => ?_) j x (by simpa using hj)
    ·have := hown ((cellsT u).length + m) c (by rw [List.getElem?_append_right (by omega)]; simpa using hc)
     rw [Nat.add_assoc]; exact this
    ·have := hval ((cellsT u).length + m) y (by rw [g2, List.getElem?_append_right (by omega)]; simpa using hy)
     rw [Nat.add_assoc]; exact this
 | [], _ :: _, _, _, _, hm, _, _, _, _, _, _, _ => by simp at hm
 | _ :: _, [], _, _, _, hm, _, _, _, _, _, _, _ => by simp at hm
 | [], [], _ :: _, _, hl, _, _, _, _, _, _, _, _ => by simp at hl
 | _ :: _, _ :: _, [], _, hl, _, _, _, _, _, _, _, _ => by simp at hl
theorem initT_len : ∀ (ms : List Mode) (args : List TV) (b : Nat), ms.length = args.length → (initT b ms args).length = args.length
 | [], [], _, _ => rfl
 | m :: ms, u :: us, b, h => by cases m <;> simp [initT, initT_len ms us _ (by simpa using h)]
 | [], _ :: _, _, h => by simp at h
 | _ :: _, [], _, h => by simp at h
theorem noROL_eq (cs : List TV) : noROL cs = cs.all noRO := by
 induction cs with
 | nil => rfl
 | cons c cs ih => simp [noROL, ih]
theorem noROLL_eq (es : List (List TV)) : noROLL es = es.all (·.all noRO) := by
 induction es with
 | nil => rfl
 | cons c cs ih => simp [noROLL, ih, noROL_eq]
theorem RR.noro {u : TV} {v : Value} (h : RR w A u v) (hn : noRO u = true) : RR w K u v := by
 induction h with
 | b x => exact .b x
 | i k n => exact .i k n
 | f x => exact .f x
 | s x => exact .s x
 | np => exact .np
 | sl0 z => exact .sl0 z
 | sle z c a => exact .sle z c a
 | junk v => exact .junk v
 | pin v h => exact .pin v h
 | fn g caps capv hl hc ih =>
  simp only [noRO, noROL_eq, List.all_eq_true] at hn
  exact .fn g caps capv hl fun j u hu => ih j u hu (hn u (List.mem_of_getElem? hu))
 | sl z n c B o es arr T fz hl hn' hz hb hs ha hc ih =>
  simp only [noRO, Bool.false_or, Bool.and_eq_true, List.isEmpty_iff] at hn
  obtain ⟨rfl, _⟩ := hn
  have : n = 0 := by simpa using hl.symm
  subst this
  exact .sl z 0 c B o [] arr T fz rfl (Nat.zero_le _) (by simp) hb hs (by simp) (by simp)
 | po B o cs arr T fz hb hs ha hc ih => simp [noRO] at hn
theorem TR.noro {p : Path} {u : TV} {v : Value} (h : TR w κ γ A p u v) (hn : noRO u = true) : TR w κ γ K p u v := by
 induction h with
 | pure p u v h => exact .pure p u v (h.noro hn)
 | sl0 p z hk => exact .sl0 p z hk
 | sl p z n c B o es arr T hk hl hn' hz hb hs hg hc ih =>
  simp only [noRO, Bool.true_or, Bool.true_and, noROLL_eq, List.all_eq_true] at hn
  exact .sl p z n c B o es arr T hk hl hn' hz hb hs hg fun i f e u he hf => ih i f e u he hf (hn e (List.mem_of_getElem? he) u (List.mem_of_getElem? hf))
 | po p B o cs arr T hk hb hs hg hc ih =>
  simp only [noRO, Bool.true_and, noROL_eq, List.all_eq_true] at hn
  exact .po p B o cs arr T hk hb hs hg fun f u hf => ih f u hf (hn u (List.mem_of_getElem? hf))
theorem rv_agv {x : TV} {v : Value} (h : RV w κ H A x v) (hne : x ≠ .junk) : isAg x = isAgV v := by
 cases h with
 | pure u v h => cases h with
  | junk => exact absurd rfl hne
  | pin v h => show false = isAgV v; cases v <;> first | rfl | cases h
  | _ => rfl
 | _ => rfl
def resVal (tmps : Array Value) : ResultVar → Sem Value
 | .tmp t => Pure.pure (tmps.getD t undef)
 | .cell a t => do loadVar t (← asAddr (tmps.getD a undef))
theorem loadT_rv {t : TypeId} {g : Bool} {n : Nat} {u x : TV} {v : Value} (hh : HR w0 S0 A w κ γ H) (hv : RV w κ H A u v) (hx : loadT H g n u = some x) (hg : tyAgg P t = some g) (hn : tySize P t = some n) (h1n : g = false → n = 1) :
  ∃ y, (Instr.loadAt t v).run P w = .ok y w ∧ RV w κ H A x y ∧ ∃ a, v = .pointer (some a) := by
 unfold loadT at hx
 split at hx
 case h_2 => cases hx
 rename_i p i f
 simp only [Option.bind_eq_some_iff] at hx
 obtain ⟨cs, hr, hx⟩ := hx
 split at hx
 case isFalse => cases hx
 rename_i hlen
 obtain ⟨B, off, arr, T, rfl, h2, h3, h4, _⟩ := pt_read hh hv hr hlen
 have cell : ∀ (j : Nat) (u : TV), j < n → cs[f + j]? = some u → RV w κ H A (toRef (p ++ [(i, f + j)]) u) ((arr[off + j]?).getD undef) := fun j u hj hu => toRef_rv (h4 j u hj hu) (row_cell hr hu)
 have hl := run_loadAt (P := P) (w := w) hg hn h2 h3 h1n
 cases g with
 | true =>
  simp only [if_true, Option.some.injEq] at hx hl
  subst hx
  refine ⟨_, hl, ?_, _, rfl⟩
  refine .ag _ _ (by rw [refsFrom_len]; simp; omega) fun j u hu => ?_
  rw [refsFrom_get] at hu
  cases hj : ((cs.drop f).take n)[j]? with
  | none => simp [hj] at hu
  | some c =>
   simp only [hj, Option.map_some, Option.some.injEq] at hu
   subst hu
   rw [List.getElem?_take] at hj
   split at hj
   case isFalse => cases hj
   rename_i hjn
   rw [List.getElem?_drop] at hj
   have := cell j c hjn hj
   have e : (arr.extract off (off + n))[j]? = arr[off + j]? := by
    rw [Array.getElem?_extract]; simp; omega
   rwa [e]
 | false =>
  obtain rfl := h1n rfl
  simp only [Bool.false_eq_true, if_false, Option.some.injEq] at hx hl
  obtain ⟨c, hc⟩ : ∃ c, cs[f]? = some c := ⟨cs[f], List.getElem?_eq_getElem (by omega)⟩
  have e1 : (cs.drop f).take 1 = [c] := by
   rw [List.take_one, List.head?_drop, hc]; rfl
  rw [e1] at hx
  simp only [refsFrom, List.headD_cons] at hx
  subst hx
  exact ⟨_, hl, by simpa using cell 0 c (by omega) (by simpa using hc), _, rfl⟩
theorem run_results {fn : Func} {rt : List TRes} {a : Act} {tvs : List TV} (h : resTmps P fn.results.toList = some rt) (hh : HR w0 S0 A w κ γ st.H) (ht : ∀ k, RV w κ st.H A (st.t k) ((a.tmps[k]?).getD undef))
  (htv : optAll (rt.map (resTV st)) = some tvs) :
  ∃ rs, (results fn a.tmps).run P w = .ok (resV rs) w ∧ tvs.length = rs.length ∧ ∀ (j : Nat) (u : TV) (v : Value), tvs[j]? = some u → rs[j]? = some v → RV w κ st.H A u v := by
 have key : ∀ (l : List ResultVar) (rt : List TRes) (tvs : List TV), resTmps P l = some rt → optAll (rt.map (resTV st)) = some tvs → ∃ rs, (l.mapM (m := Sem) (resVal a.tmps)).run P w = .ok rs w ∧ tvs.length = rs.length ∧
   ∀ (j : Nat) (u : TV) (v : Value), tvs[j]? = some u → rs[j]? = some v → RV w κ st.H A u v := by
  intro l
  induction l with
  | nil =>
   intro rt tvs h h'
   simp only [resTmps, Option.some.injEq] at h; subst h
   simp only [List.map_nil, optAll, Option.some.injEq] at h'; subst h'
   exact ⟨[], rfl, rfl, by simp⟩
  | cons r l ih =>
   intro rt tvs h h'
   have step : ∀ (tr : TRes) (ts : List TRes), resTmps P l = some ts → rt = tr :: ts → (∀ x, resTV st tr = some x → ∃ y, (resVal a.tmps r).run P w = .ok y w ∧ RV w κ st.H A x y) →
     ∃ rs, ((r :: l).mapM (m := Sem) (resVal a.tmps)).run P w = .ok rs w ∧ tvs.length = rs.length ∧ ∀ (j : Nat) (u : TV) (v : Value), tvs[j]? = some u → rs[j]? = some v → RV w κ st.H A u v := by
    rintro tr ts h1 rfl hone
    simp only [List.map_cons, optAll, Option.bind_eq_some_iff, Option.some.injEq] at h'
    obtain ⟨x, hx, xs, hxs, rfl⟩ := h'
    obtain ⟨y, hy1, hy2⟩ := hone x hx
    obtain ⟨rs, g1, g2, g3⟩ := ih ts xs h1 hxs
    refine ⟨y :: rs, ?_, by simp [g2], fun j u v hu hv => ?_⟩
    ·simp only [List.mapM_cons, Sem.run_bind, hy1, Result.andThen_ok, g1, Sem.run_pure]
    ·cases j with
     | zero => simp at hu hv; subst hu; subst hv; exact hy2
     | succ j => exact g3 j u v (by simpa using hu) (by simpa using hv)
   cases r with
   | tmp t =>
    simp only [resTmps, Option.bind_eq_some_iff, Option.some.injEq] at h
    obtain ⟨ts, h1, rfl⟩ := h
    refine step _ ts h1 rfl fun x hx => ?_
    simp only [resTV, Option.some.injEq] at hx; subst hx
    exact ⟨_, rfl, by simpa using ht t⟩
   | cell c t =>
    simp only [resTmps, Option.bind_eq_some_iff] at h
    obtain ⟨g, hg, n, hn, ts, h1, h⟩ := h
    split at h
    case isFalse => cases h
    rename_i hgn
    simp only [Option.some.injEq] at h; subst h
    refine step _ ts h1 rfl fun x hx => ?_
    simp only [resTV] at hx
    obtain ⟨y, y1, y2, ad, y3⟩ := loadT_rv (P := P) (t := t) hh (ht c) hx hg hn (by rintro rfl; simpa using hgn)
    refine ⟨y, ?_, y2⟩
    have e : a.tmps.getD c undef = .pointer (some ad) := by rw [← y3]; simp
    rw [y3] at y1
    simp only [Instr.loadAt, Instr.sureAddr, Sem.run_bind, Sem.run_pure, Result.andThen_ok] at y1
    simp only [resVal, e, asAddr, Sem.run_bind, Sem.run_pure, Result.andThen_ok, y1]
 obtain ⟨rs, h1, h2, h3⟩ := key _ _ _ h htv
 refine ⟨rs, ?_, h2, h3⟩
 have e : results fn a.tmps = (fn.results.mapM (m := Sem) (resVal a.tmps)).bind fun vs => Sem.pure (if h : vs.size = 1 then vs[0] else .tuple vs) := by
  unfold results
  show Sem.bind _ _ = Sem.bind _ _
  congr 1
 rw [e, Array.mapM_eq_mapM_toList]
 show ((List.toArray <$> List.mapM (resVal a.tmps) fn.results.toList) >>= fun vs => (Pure.pure (if h : vs.size = 1 then vs[0] else .tuple vs) : Sem Value)).run P w = _
 simp only [Sem.run_bind, Sem.run_map, h1, Result.andThen_ok, Sem.run_pure]
 congr 1
 cases rs with
 | nil => rfl
 | cons x xs =>
  cases xs with
  | nil => rfl
  | cons y ys => simp [resV]
theorem flat_rv : ∀ (tvs : List TV) (rs : List Value), tvs.length = rs.length → (∀ (j : Nat) (u : TV) (v : Value), tvs[j]? = some u → rs[j]? = some v → RV w κ H A u v) → (∀ c ∈ tvs.flatMap cellsT, c ≠ .junk ∧ (∀ vs, c ≠ .tu vs) ∧ isAg c = false) →
  (tvs.flatMap cellsT).length = (rs.flatMap cellsV).length ∧ (∀ (j : Nat) (c : TV) (v : Value), (tvs.flatMap cellsT)[j]? = some c → (rs.flatMap cellsV)[j]? = some v → RV w κ H A c v) ∧
  ∀ (j : Nat) (u : TV) (v : Value), tvs[j]? = some u → rs[j]? = some v → isAg u = isAgV v ∧ (cellsT u).length = (cellsV v).length
 | [], [], _, _, _ => by simp
 | [], _ :: _, h, _, _ => by simp at h
 | _ :: _, [], h, _, _ => by simp at h
 | x :: tvs, y :: rs, hl, ht, hf => by
  obtain ⟨i1, i2, i3⟩ := flat_rv tvs rs (by simpa using hl) (fun j u v hu hv => ht (j + 1) u v (by simpa using hu) (by simpa using hv)) (fun c hc => hf c (by simp only [List.flatMap_cons]; exact List.mem_append_right _ hc))
  have hk : ∀ c ∈ cellsT x, c ≠ .junk ∧ (∀ vs, c ≠ .tu vs) ∧ isAg c = false := fun c hc => hf c (by simp only [List.flatMap_cons]; exact List.mem_append_left _ hc)
  have hxy := ht 0 x y rfl rfl
  have hnj : x ≠ .junk := by rintro rfl; exact (hk .junk (by simp [cellsT])).1 rfl
  have hn : isAg x = true ∨ ∀ vs, x ≠ .tu vs := by
   by_cases hg : isAg x = true
   ·exact .inl hg
   ·refine .inr fun vs hh => ?_
    exact (hk (.tu vs) (by rw [hh]; simp [cellsT])).2.1 vs rfl
  obtain ⟨l1, l2⟩ := rv_cells hxy (fun c hc => (hk c hc).1) hn
  refine ⟨by simp only [List.flatMap_cons, List.length_append, l1, i1], fun j c v hj hv => ?_, fun j u v hu hv => ?_⟩
  ·simp only [List.flatMap_cons] at hj hv
   rcases Nat.lt_or_ge j (cellsT x).length with h | h
   ·rw [List.getElem?_append_left h] at hj
    rw [List.getElem?_append_left (by omega)] at hv
    exact l2 j c v hj hv
   ·rw [List.getElem?_append_right h] at hj
    rw [List.getElem?_append_right (by omega), ← l1] at hv
    exact i2 _ c v hj hv
  ·cases j with
   | zero => simp at hu hv; subst hu; subst hv; exact ⟨rv_agv hxy hnj, l1⟩
   | succ j => exact i3 j u v (by simpa using hu) (by simpa using hv)
theorem TR.val {p : Path} {u : TV} {v : Value} (h : TR w κ γ A p u v) (hs : (shape u).isSome = true) : κ p = v := by
 cases h with
 | pure p u v h => rw [h.noshape] at hs; cases hs
 | sl0 p z hk => exact hk
 | sl p z n c B o es arr T hk => exact hk
 | po p B o cs arr T hk => exact hk
theorem outs_noRO {outs : List (Option TV)} (h : outsNoRO outs = true) {m : Nat} {u : TV} (hu : outs[m]? = some (some u)) : noRO u = true :=
 List.all_eq_true.1 h (some u) (List.mem_of_getElem? hu)
theorem backs_at : ∀ (gq : List (Option Path)) (ls : List TV) (os : List (Option TV)) (m0 : Nat), backs st m0 gq ls os → gq.length = os.length ∧ ls.length = os.length ∧
  ∀ (m : Nat) (u : TV), os[m]? = some (some u) → ls[m]? = some u ∧ (shape u).isSome = true ∧ ∃ q, gq[m]? = some (some q) ∧ (q = [(1, m0 + m)] ∨ st.org q = some (m0 + m))
 | [], [], [], m0, _ => by simp
 | some q :: gq, l :: ls, some u :: os, m0, h => by
  obtain ⟨h1, h2, h3, h4⟩ := h
  obtain ⟨g1, g2, g3⟩ := backs_at gq ls os (m0 + 1) h4
  refine ⟨by simp [g1], by simp [g2], fun m x hm => ?_⟩
  cases m with
  | zero =>
   simp only [List.getElem?_cons_zero, Option.some.injEq] at hm; subst hm
   exact ⟨by simp [h1], h2, q, rfl, h3⟩
  | succ m =>
   have := g3 m x (by simpa using hm)
   rw [show m0 + 1 + m = m0 + (m + 1) by omega] at this
   simpa using this
 | none :: gq, l :: ls, none :: os, m0, h => by
  obtain ⟨g1, g2, g3⟩ := backs_at gq ls os (m0 + 1) h
  refine ⟨by simp [g1], by simp [g2], fun m x hm => ?_⟩
  cases m with
  | zero => simp at hm
  | succ m =>
   have := g3 m x (by simpa using hm)
   rw [show m0 + 1 + m = m0 + (m + 1) by omega] at this
   simpa using this
 | [], _ :: _, _, _, h => by cases h
 | [], [], _ :: _, _, h => by cases h
 | some _ :: _, [], _, _, h => by cases h
 | none :: _, [], _, _, h => by cases h
 | some _ :: _, _ :: _, [], _, h => by cases h
 | none :: _, _ :: _, [], _, h => by cases h
 | some _ :: _, _ :: _, none :: _, _, h => by cases h
 | none :: _, _ :: _, some _ :: _, _, h => by cases h
def κend (κ : Path → Value) (K : Nat) : Path → Value
 | s :: r => if s.1 = 1 then κ ((0, K + s.2) :: r) else κ (s :: r)
 | [] => κ []
def γend (γ : Nat → Nat → Option Path) (K : Nat) (b o : Nat) : Option Path :=
 match γ b o with
 | some (s :: r) => if s.1 = 0 then (if s.2 < K then some (s :: r) else some ((1, s.2 - K) :: r)) else none
 | _ => none
theorem contract_of (hall : AllGood P) (hdr : DrawsGood P) {al : Bool} {g : FuncId} {fn : Func} {c : Code} {tc : TCode} {ms : List Mode} {args res : List TV} {outs : List (Option TV)} (gq : List (Option Path)) {rt : List TRes}
  (hf : P.funcs[g]? = some fn) (hb : fn.body = some c) (hc : compCode P fn.ntmps c = some tc) (hr : resTmps P fn.results.toList = some rt) (hn : args.length ≤ fn.ntmps)
  (hT : ms.length = args.length → twp P tc (endW al res outs gq rt) (initSt ms args)) : Contract P al g ms args res outs := by
 intro w vs κ γ A hA hg hAA
 refine calls_of_wp hf hb ?_
 let F : Fr := ⟨w, fun b o => ∃ q, γ b o = some q, A, fn.ntmps, fun b => κ [(1, b)]⟩
 have hcellH : ∀ (m : Nat) (c : TV), (ownCells ms args)[m]? = some c → cellAt (initSt ms args).H [(1, m)] = some c := by
  intro m c hc; rw [cellAt_root]; simpa [initSt] using hc
 have hR : Rel F (initSt ms args) { tmps := vs.toArray ++ Array.replicate (fn.ntmps - vs.toArray.size) undef, defers := [] } w := by
  refine ⟨κ, γ, ⟨?_, fun b o q hb => ⟨hg b o q hb, .inl ⟨q, hb⟩⟩, fun b o ha => ⟨(hAA b o ha).1, by rintro ⟨q, hq⟩; rw [(hAA b o ha).2] at hq; cases hq⟩, .refl _ w⟩, by simp [initSt], ?_, ?_, rfl, fun _ => rfl, fun q m hq _ => by cases hq⟩
  ·rintro ⟨i, m⟩ u hu
   simp only [initSt] at hu
   split at hu
   ·rename_i hi; obtain rfl : i = 1 := hi; exact hA.own m u hu
   ·simp at hu
  ·have := hA.len
   show (vs.toArray ++ Array.replicate (fn.ntmps - vs.toArray.size) undef).size = fn.ntmps
   simp; omega
  ·intro k
   rcases Nat.lt_or_ge k vs.length with hk | hk
   ·obtain ⟨u, h1, h2⟩ := initT_rv (H := (initSt ms args).H) ms args vs 0 hA.len hA.lenm hA.ag hA.ro (fun m c hc => ⟨by simpa using hA.own m c hc, by simpa using hcellH m c hc⟩) (fun m v hv => by simpa using hA.val m v hv) k vs[k] (List.getElem?_eq_getElem hk)
    have e1 : ((vs.toArray ++ Array.replicate (fn.ntmps - vs.toArray.size) undef)[k]?).getD undef = vs[k] := by
     rw [Array.getElem?_append_left (by simpa using hk)]; simp [hk]
    rw [e1]
    simpa [initSt, h1] using h2
   ·have : (initT 0 ms args)[k]? = none := by
     rw [List.getElem?_eq_none_iff, initT_len _ _ _ hA.lenm, hA.len]; exact hk
    simp only [initSt, this, Option.getD_none]
    exact .pure _ _ (.junk _)
 refine code_ok hall hdr (F := F) rfl c tc _ _ w _ _ hc hR (hT hA.lenm) fun e st' a' w' hR' hend => ?_
 have fin : (∃ tvs us H1 ds ls H2 ds2, optAll (rt.map (resTV st')) = some tvs ∧ takeL (tvs.flatMap cellsT) st'.H = some (us, H1, ds) ∧ us = res.flatMap cellsT ∧
   tvs.map isAg = res.map isAg ∧ tvs.map (fun u => (cellsT u).length) = res.map (fun u => (cellsT u).length) ∧
   takeL (gq.map (ghostRef H1)) H1 = some (ls, H2, ds2) ∧ backs st' 0 gq ls outs ∧ (al = false → us.all noRO = true ∧ outsNoRO outs = true)) → a'.defers = [] ∧ ∃ v, (results fn a'.tmps).run P w' = .ok v w' ∧ (∃ rs κ' γ', Ending.returned v = .returned (resV rs) ∧ ResR w' κ' γ' (fun b o => al = true ∧ A b o) res rs ∧
   (∀ (m : Nat) (u : TV), outs[m]? = some (some u) → TR w' κ' γ' (fun b o => al = true ∧ A b o) [(1, m)] u (κ [(1, m)])) ∧
   (∀ b o q, γ' b o = some q → b < w'.heap.size ∧ ((∃ q', γ b o = some q') ∨ w.heap.size ≤ b)) ∧
   Chg (fun b o => ∃ q, γ b o = some q) w w') := by
  rintro ⟨tvs, us, H1, ds, ls, H2, ds2, htv, ht, hus, hag, hln, ht2, hbk, hal⟩
  obtain ⟨κ1, γ1, r1, r2, r3, r4, r5, r6, r7⟩ := hR'
  obtain ⟨rs, s1, s2, s3⟩ := run_results (P := P) hr r1 r4 htv
  refine ⟨r5, _, s1, rs, ?_⟩
  obtain ⟨f1, f2, f3⟩ := flat_rv tvs rs s2 s3 (takeL_fit ht)
  have hH : HR F.w0 F.S0 F.A w' κ1 γ1 (wr0 st'.H []) := by rw [wr0_self r2]; exact r1
  obtain ⟨κ2, γ2, k1, k2, k3, k4, k5, k6, k7, k8⟩ := takeL_ok _ _ [] us st'.H H1 κ1 γ1 ds hH r2 f1 (fun j c v hc hv => (f2 j c v hc hv).rs) ht
  simp only [List.nil_append, List.length_nil, Nat.zero_add] at k1 k4
  obtain ⟨b1, b2, b3⟩ := backs_at _ _ _ _ hbk
  let vals : List Value := gq.map fun | none => .pointer none | some q => κ2 q
  have hgr : ∀ (j : Nat) (c : TV) (v : Value), (gq.map (ghostRef H1))[j]? = some c → vals[j]? = some v → Rs w' κ2 H1 F.A c v := by
   intro j c v hc hv
   simp only [vals, List.getElem?_map] at hc hv
   cases hj : gq[j]? with
   | none => simp [hj] at hc
   | some x =>
    simp only [hj, Option.map_some, Option.some.injEq] at hc hv
    cases x with
    | none =>
     simp only [ghostRef] at hc hv
     subst hc; subst hv
     exact (RV.pure _ _ .np).rs
    | some q =>
     simp only [ghostRef] at hc hv
     subst hv
     split at hc
     ·rename_i z es hcell
      have hq0 := not0_of_live k2 hcell
      obtain ⟨v', hT⟩ := k1.at (p := q) (by rw [cellAt_wr0 _ _ hq0]; exact hcell)
      have hv' := hT.val rfl
      subst hc
      rw [hv']
      exact (toRef_rv hT hcell).rs
     ·rename_i cs hcell
      have hq0 := not0_of_live k2 hcell
      obtain ⟨v', hT⟩ := k1.at (p := q) (by rw [cellAt_wr0 _ _ hq0]; exact hcell)
      have hv' := hT.val rfl
      subst hc
      rw [hv']
      exact (toRef_rv hT hcell).rs
     ·subst hc; exact (RV.pure _ _ (.junk _)).rs
  obtain ⟨κ3, γ3, m1, m2, m3, m4, m5, m6, m7, m8⟩ := takeL_ok _ vals us ls H1 H2 κ2 γ2 ds2 k1 k2 (by simp [vals]) hgr ht2
  have hlen : tvs.length = res.length := by have := congrArg List.length hag; simpa using this
  have hg3 : ∀ b o q, γend γ3 us.length b o = some q → ∃ q', γ3 b o = some q' := by
   intro b o q hq
   unfold γend at hq
   split at hq
   ·rename_i hg; exact ⟨_, hg⟩
   ·cases hq
  have al_of : ∀ {p : Path} {u : TV} {v : Value} {κ' : Path → Value} {γ' : Nat → Nat → Option Path}, TR w' κ' γ' A p u v → (al = false → noRO u = true) → TR w' κ' γ' (fun b o => al = true ∧ A b o) p u v := by
   intro p u v κ' γ' hT hno
   cases hal' : al with
   | true => exact hT.ren (K := fun _ _ => True) _ (fun r nd _ _ => ⟨rfl, fun _ _ hb => ⟨hb, trivial⟩⟩) (Keep.refl _ w') (fun _ _ _ => trivial) (fun _ _ h => ⟨rfl, h⟩)
   | false => exact hT.noro (hno hal')
  refine ⟨κend κ3 us.length, γend γ3 us.length, rfl, ⟨by omega, ?_, ?_, ?_⟩, ?_, ?_, m1.chg⟩
  ·intro j u v hu hv
   have hlt : j < tvs.length := by have := (List.getElem?_eq_some_iff.1 hu).1; omega
   have hj : tvs[j]? = some tvs[j] := List.getElem?_eq_getElem hlt
   obtain ⟨q1, q2⟩ := f3 j tvs[j] v hj hv
   have e1 : (tvs.map isAg)[j]? = (res.map isAg)[j]? := by rw [hag]
   have e2 : (tvs.map (fun u => (cellsT u).length))[j]? = (res.map (fun u => (cellsT u).length))[j]? := by rw [hln]
   simp only [List.getElem?_map, hj, hu, Option.map_some, Option.some.injEq] at e1 e2
   exact ⟨e1.symm.trans q1, e2.symm.trans q2⟩
  ·intro m c hc
   rw [← hus] at hc
   have hlt := (List.getElem?_eq_some_iff.1 hc).1
   have hT2 := m1.root (0, m) c (by simp only [wr0, if_true]; rw [List.getElem?_append_left hlt]; exact hc)
   have hT3 : TR w' (κend κ3 us.length) (γend γ3 us.length) A [(0, m)] c (κend κ3 us.length [(0, m)]) := by
    have e : κend κ3 us.length [(0, m)] = κ3 [(0, m)] := by simp [κend]
    rw [e]
    refine hT2.ren (K := fun _ _ => True) _ (fun r nd _ _ => ⟨by simp [κend], fun b o hb => ⟨?_, trivial⟩⟩) (Keep.refl _ w') (fun _ _ _ => trivial) (fun _ _ h => h)
    simp only [List.singleton_append] at hb ⊢
    simp [γend, hb, hlt]
   exact al_of hT3 fun ha => List.all_eq_true.1 (hal ha).1 c (List.mem_of_getElem? hc)
  ·intro m v hm
   have hlt : m < us.length := by have := (List.getElem?_eq_some_iff.1 hm).1; omega
   have e : κend κ3 us.length [(0, m)] = κ3 [(0, m)] := by simp [κend]
   rw [e, m5 _ (by intro j r hh; simp at hh; omega)]
   exact k4 m v hm
  ·intro m u h3
   obtain ⟨c1, c2, q, c3, c4⟩ := b3 m u h3
   have hT2 := m1.root (0, us.length + m) u (by simp only [wr0, if_true]; rw [List.getElem?_append_right (by omega), Nat.add_sub_cancel_left]; exact c1)
   have hvm : vals[m]? = some (κ2 q) := by simp [vals, c3]
   have e1 := m4 m _ hvm
   have hlive : Live st'.H q := by
    have hgm : (gq.map (ghostRef H1))[m]? = some (ghostRef H1 (some q)) := by simp [c3]
    have hne : ghostRef H1 (some q) ≠ .junk := (takeL_fit ht2 _ (List.mem_of_getElem? hgm)).1
    have hl1 : Live H1 q := by
     unfold ghostRef at hne
     split at hne
     ·rename_i hh; cases hh
     ·rename_i q' hh
      cases hh
      split at hne
      ·rename_i hcell; exact ⟨_, hcell, rfl⟩
      ·rename_i hcell; exact ⟨_, hcell, rfl⟩
      ·exact absurd rfl hne
    rw [live_iff, ← k6 q (k8 q hl1), ← live_iff]
    exact hl1
   have e2 : κ2 q = κ [(1, m)] := by
    obtain ⟨x, hx, _⟩ := id hlive
    have hq0 := not0_of_live r2 hx
    rw [k5 q (fun j r hh => hq0 _ _ hh)]
    rcases c4 with c4 | c4
    ·rw [c4, Nat.zero_add]; exact r6 m
    ·rw [Nat.zero_add] at c4; exact r7 q m c4 hlive
   rw [e1, e2] at hT2
   have hT3 : TR w' (κend κ3 us.length) (γend γ3 us.length) A [(1, m)] u (κ [(1, m)]) := by
    refine hT2.ren (K := fun _ _ => True) _ (fun r nd _ _ => ⟨by simp [κend], fun b o hb => ⟨?_, trivial⟩⟩) (Keep.refl _ w') (fun _ _ _ => trivial) (fun _ _ h => h)
    simp only [List.singleton_append] at hb ⊢
    simp [γend, hb]
   exact al_of hT3 fun ha => outs_noRO (hal ha).2 h3
  ·intro b o q hb
   obtain ⟨q', hq'⟩ := hg3 b o q hb
   obtain ⟨h1, h2⟩ := m1.own b o q' hq'
   exact ⟨h1, h2⟩
 cases e with
 | exit id => exact hend.elim
 | normal => exact fin hend
 | ret => exact fin hend
end
end Go.Proofs.YtmedelmfkciblaaT


namespace Go.Proofs.YtmedelmfkciblaaT
set_option linter.unusedVariables false
set_option linter.unusedSimpArgs false
open Go
theorem fzL_eq (cs : List TV) : fzL cs = cs.map fz := by
 induction cs with
 | nil => rfl
 | cons c cs ih => simp [fzL, ih]
theorem fzLL_eq (es : List (List TV)) : fzLL es = es.map (·.map fz) := by
 induction es with
 | nil => rfl
 | cons c cs ih => simp [fzLL, ih, fzL_eq]
section
variable {P : Program} {F : Fr} {st : St} {w w' w0 : World} {S0 : Nat → Nat → Prop} {κ κ' : Path → Value} {γ γ' : Nat → Nat → Option Path} {H H1 : Hp} {A A' K : Nat → Nat → Prop} {L : List TV} {o : Oper} {E : Eff} {root : Nat}
theorem RR.fz {u : TV} {v : Value} (h : RR w A u v) : fz u = u := by
 induction h with
 | sl0 z => rfl
 | sle z c a => rfl
 | sl z n c B o es arr T fz' hl hn hz hb hs ha hc ih =>
  simp only [Go.Proofs.YtmedelmfkciblaaT.fz, fzLL_eq]
  congr 1
  refine List.ext_getElem? fun i => ?_
  rw [List.getElem?_map]
  cases he : es[i]? with
  | none => rfl
  | some e =>
   simp only [Option.map_some, Option.some.injEq]
   refine List.ext_getElem? fun f => ?_
   rw [List.getElem?_map]
   cases hf : e[f]? with
   | none => rfl
   | some u => simp [ih i f e u he hf]
 | po B o cs arr T fz' hb hs ha hc ih =>
  simp only [Go.Proofs.YtmedelmfkciblaaT.fz, fzL_eq]
  congr 1
  refine List.ext_getElem? fun f => ?_
  rw [List.getElem?_map]
  cases hf : cs[f]? with
  | none => rfl
  | some u => simp [ih f u hf]
 | fn g caps capv hl hc ih =>
  simp only [Go.Proofs.YtmedelmfkciblaaT.fz, fzL_eq]
  congr 1
  refine List.ext_getElem? fun f => ?_
  rw [List.getElem?_map]
  cases hf : caps[f]? with
  | none => rfl
  | some u => simp [ih f u hf]
 | _ => rfl
theorem fz_row {es : List (List TV)} {i f : Nat} {e : List TV} {u : TV} (he : (fzLL es)[i]? = some e) (hu : e[f]? = some u) : ∃ e0 u0, es[i]? = some e0 ∧ e0[f]? = some u0 ∧ u = fz u0 := by
 rw [fzLL_eq, List.getElem?_map] at he
 cases h1 : es[i]? with
 | none => simp [h1] at he
 | some e0 =>
  simp only [h1, Option.map_some, Option.some.injEq] at he
  subst he
  rw [List.getElem?_map] at hu
  cases h2 : e0[f]? with
  | none => simp [h2] at hu
  | some u0 =>
   simp only [h2, Option.map_some, Option.some.injEq] at hu
   exact ⟨e0, u0, rfl, h2, hu.symm⟩
theorem TR.ro {p : Path} {u : TV} {v : Value} (h : TR w κ γ A p u v) (hA : ∀ b o, A b o → A' b o)
  (hg : ∀ (r : Path) (nd : TV), down u r = some nd → (shape nd).isSome = true → ∀ b o, γ b o = some (p ++ r) → A' b o) : RR w A' (fz u) v := by
 induction h with
 | pure p u v h => rw [h.fz]; exact h.keep (K := fun _ _ => True) (Keep.refl _ w) (fun _ _ _ => trivial) hA
 | sl0 p z hk => exact .sl0 z
 | sl p z n c B o es arr T hk hl hn hz hb hs hgg hc ih =>
  have h0 := hg [] _ rfl rfl
  simp only [List.append_nil] at h0
  have hnc : n * z ≤ c * z := Nat.mul_le_mul_right z hn
  refine .sl z n c B o (fzLL es) arr T (0, 0) (by rw [fzLL_eq]; simpa using hl) hn ?_ hb (by omega) (fun k hk' => h0 _ _ (hgg k (by omega))) fun i f e u he hu => ?_
  ·intro e he
   rw [fzLL_eq, List.mem_map] at he
   obtain ⟨e0, h1, rfl⟩ := he
   simpa using hz e0 h1
  ·obtain ⟨e0, u0, h1, h2, rfl⟩ := fz_row he hu
   refine ih i f e0 u0 h1 h2 fun r nd hd hs' b o' hb' => ?_
   exact hg ((i, f) :: r) nd (by simp [down, kid, h1, h2, hd]) hs' b o' (by simpa using hb')
 | po p B o cs arr T hk hb hs hgg hc ih =>
  have h0 := hg [] _ rfl rfl
  simp only [List.append_nil] at h0
  refine .po B o (fzL cs) arr T (0, 0) hb (by rw [fzL_eq]; simpa using hs) (fun k hk' => h0 _ _ (hgg k (by rw [fzL_eq] at hk'; simpa using hk'))) fun f u hu => ?_
  rw [fzL_eq, List.getElem?_map] at hu
  cases h2 : cs[f]? with
  | none => simp [h2] at hu
  | some u0 =>
   simp only [h2, Option.map_some, Option.some.injEq] at hu
   subst hu
   refine ih f u0 h2 fun r nd hd hs' b o' hb' => ?_
   exact hg ((0, f) :: r) nd (by simp [down, kid, h2, hd]) hs' b o' (by simpa using hb')
def Acall (A : Nat → Nat → Prop) (γ : Nat → Nat → Option Path) (ro : Bool) (b o : Nat) : Prop := A b o ∨ (ro = true ∧ ∃ q, γ b o = some q ∧ ∀ j r, q ≠ (0, j) :: r)
theorem roT_ref (hh : HR w0 S0 A w κ γ (wr0 H1 L)) (h0 : H1 0 = []) {p : Path} {nd : TV} (hc : cellAt H1 p = some nd) : ∃ v0, TR w κ γ A p nd v0 ∧ RR w (Acall A γ true) (fz nd) v0 := by
 have hn := not0_of_live h0 hc
 obtain ⟨v0, hT⟩ := hh.at (p := p) (u := nd) (by rw [cellAt_wr0 _ _ hn]; exact hc)
 refine ⟨v0, hT, hT.ro (fun b o h => .inl h) fun r x hd hs b o hb => .inr ⟨rfl, _, hb, ?_⟩⟩
 intro j r' hh'
 cases p with
 | nil => cases hc
 | cons s q =>
  simp only [List.cons_append, List.cons.injEq] at hh'
  exact hn j q (by rw [hh'.1])
theorem drop_take_sub {z c o off len n : Nat} (h : off + len ≤ n) (hc : n ≤ c) : off * z + len * z ≤ n * z ∧ off * z ≤ n * z := by
 rw [← Nat.add_mul]
 exact ⟨Nat.mul_le_mul_right z h, Nat.mul_le_mul_right z (by omega)⟩
theorem RR.cut {z off len c1 B o n c : Nat} {es : List (List TV)} (h : RR w A (.sl false z es) (.slice (some ⟨B, o, none⟩) n c)) (hl : off + len ≤ n) (hc1 : len ≤ c1) :
  RR w A (.sl false z ((es.drop off).take len)) (.slice (some ⟨B, o + off * z, none⟩) len c1) := by
 cases h with
 | sle z c a =>
  obtain rfl : len = 0 := by omega
  rw [List.take_zero]; exact .sle _ _ _
 | sl z n c B o es arr T fz' hln hn hz hb hs ha hc =>
  obtain ⟨e1, e2⟩ := drop_take_sub (z := z) (c := c) (o := o) hl hn
  refine .sl z len c1 B _ _ arr T fz' (by simp; omega) hc1 (fun e he => hz e (List.mem_of_mem_drop (List.mem_of_mem_take he))) hb (by omega) (fun k hk => ?_) (fun i f e u he hf => ?_)
  ·rw [Nat.add_assoc]; exact ha _ (by omega)
  ·rw [List.getElem?_take] at he
   split at he
   case isFalse => cases he
   rw [List.getElem?_drop] at he
   have := hc _ f e u he hf
   rwa [show o + (off + i) * z + f = o + off * z + i * z + f by rw [Nat.add_mul]; omega] at this
theorem RR.row {z i f n B o m c : Nat} {es : List (List TV)} {e : List TV} (h : RR w A (.sl false z es) (.slice (some ⟨B, o, none⟩) m c)) (he : es[i]? = some e) (hl : f + n ≤ e.length) :
  RR w A (.po false ((e.drop f).take n)) (.pointer (some ⟨B, o + i * z + f, none⟩)) := by
 cases h with
 | sle z c a => simp at he
 | sl z m c B o es arr T fz' hln hn hz hb hs ha hc =>
  have hze := hz e (List.mem_of_getElem? he)
  have hi : i < m := by have := (List.getElem?_eq_some_iff.1 he).1; omega
  have h4 : (i + 1) * z ≤ m * z := Nat.mul_le_mul_right z hi
  rw [Nat.add_mul] at h4
  refine .po B _ _ arr T fz' hb (by simp; omega) (fun k hk => ?_) (fun j u hu => ?_)
  ·simp at hk
   rw [show o + i * z + f + k = o + (i * z + f + k) by omega]; exact ha _ (by omega)
  ·rw [List.getElem?_take] at hu
   split at hu
   case isFalse => cases hu
   rw [List.getElem?_drop] at hu
   have := hc i _ e u he hu
   rwa [show o + i * z + (f + j) = o + i * z + f + j by omega] at this
theorem RR.prow {f n B o : Nat} {e : List TV} (h : RR w A (.po false e) (.pointer (some ⟨B, o, none⟩))) (hl : f + n ≤ e.length) :
  RR w A (.po false ((e.drop f).take n)) (.pointer (some ⟨B, o + f, none⟩)) := by
 cases h with
 | po B o e arr T fz' hb hs ha hc =>
  refine .po B _ _ arr T fz' hb (by simp; omega) (fun k hk => ?_) (fun j u hu => ?_)
  ·simp at hk
   rw [Nat.add_assoc]; exact ha _ (by omega)
  ·rw [List.getElem?_take] at hu
   split at hu
   case isFalse => cases hu
   rw [List.getElem?_drop] at hu
   have := hc _ u hu
   rwa [← Nat.add_assoc] at this
theorem roT_rf (hh : HR w0 S0 A w κ γ (wr0 H1 L)) (h0 : H1 0 = []) {p : Path} {off len z : Nat} {es : List (List TV)} {v : Value} (hv : RV w κ H1 A (.rf p off len) v) (hc : cellAt H1 p = some (.sl true z es)) :
  RR w (Acall A γ true) (.sl false z (fzLL ((es.drop off).take len))) v := by
 obtain ⟨v0, hT, hR⟩ := roT_ref hh h0 hc
 have hk0 := hT.val rfl
 simp only [fz] at hR
 have ecut : fzLL ((es.drop off).take len) = ((fzLL es).drop off).take len := by simp [fzLL_eq, List.map_take, List.map_drop]
 rw [ecut]
 cases hv with
 | pure u v h => cases h
 | rf0 p z' off hk hcs =>
  rw [List.take_zero]; exact .sl0 z
 | rf p z' n c B o off len hk hcs hb hn =>
  rw [hk] at hk0; subst hk0
  simp only [shapeAt, hc, Option.bind_some, shape, Option.some.injEq, Prod.mk.injEq, true_and] at hcs
  obtain ⟨rfl, hln⟩ := hcs
  exact hR.cut hb (by omega)
 | rfE p z' n c B o off o1 c1 hk hcs g1 g2 _ =>
  rw [hk] at hk0; subst hk0
  rw [List.take_zero]
  cases hT with
  | pure p u v h => cases h
  | sl p z n c B o es arr T hk' hl hn hz hb hs hg hcc =>
   simp only [shapeAt, hc, Option.bind_some, shape, Option.some.injEq, Prod.mk.injEq, true_and] at hcs
   obtain ⟨rfl, _⟩ := hcs
   exact .sl z 0 c1 B o1 [] arr T (0, 0) rfl (Nat.zero_le _) (by simp) hb (by omega) (by simp) (by simp)
theorem roT_pt (hh : HR w0 S0 A w κ γ (wr0 H1 L)) (h0 : H1 0 = []) {p : Path} {i f n : Nat} {cs : List TV} {v : Value} (hv : RV w κ H1 A (.pt p i f) v) (hc : rowAt H1 p i = some cs) (hl : f + n ≤ cs.length) :
  RR w (Acall A γ true) (.po false (fzL ((cs.drop f).take n))) v := by
 simp only [rowAt, Option.bind_eq_some_iff] at hc
 obtain ⟨es, ⟨nd, h1, h2⟩, h3⟩ := hc
 obtain ⟨v0, hT, hR⟩ := roT_ref hh h0 h1
 have ecut : fzL ((cs.drop f).take n) = ((fzL cs).drop f).take n := by simp [fzL_eq, List.map_take, List.map_drop]
 rw [ecut]
 have hl' : f + n ≤ (fzL cs).length := by rw [fzL_eq]; simpa using hl
 cases hv with
 | pure u v h => cases h
 | ptS p z m c B o i f hk hcs hi hf =>
  unfold rows at h2
  split at h2
  ·simp only [Option.some.injEq] at h2; subst h2
   rename_i z' es'
   have hk0 := hT.val rfl
   rw [hk] at hk0; subst hk0
   simp only [shapeAt, h1, Option.bind_some, shape, Option.some.injEq, Prod.mk.injEq, true_and] at hcs
   obtain ⟨rfl, _⟩ := hcs
   simp only [fz] at hR
   exact hR.row (by rw [fzLL_eq, List.getElem?_map, h3, fzL_eq]; rfl) hl'
  ·simp [shapeAt, h1, shape] at hcs
  ·cases h2
 | ptP p B o f m hk hcs hf =>
  unfold rows at h2
  split at h2
  ·simp [shapeAt, h1, shape] at hcs
  ·simp only [Option.some.injEq] at h2; subst h2
   simp only [List.getElem?_cons_zero, Option.some.injEq] at h3; subst h3
   have hk0 := hT.val rfl
   rw [hk] at hk0; subst hk0
   simp only [fz] at hR
   exact hR.prow hl'
  ·cases h2
theorem Acall_mono {b b' : Bool} (h : b = true → b' = true) (x y : Nat) (ha : Acall A γ b x y) : Acall A γ b' x y := by
 rcases ha with ha | ⟨h1, h2⟩
 ·exact .inl ha
 ·exact .inr ⟨h h1, h2⟩
theorem roL_get : ∀ {cs xs : List TV} {n : Nat} {b : Bool}, roL H n cs = some (xs, b) → xs.length = cs.length ∧ ∀ (j : Nat) (c x : TV), cs[j]? = some c → xs[j]? = some x → ∃ b', roT H n c = some (x, b') ∧ (b' = true → b = true)
 | [], xs, n, b, h => by
  simp only [roL, Option.some.injEq, Prod.mk.injEq] at h
  obtain ⟨rfl, rfl⟩ := h
  simp
 | c :: cs, xs, n, b, h => by
  simp only [roL, Option.bind_eq_some_iff, Option.some.injEq, Prod.mk.injEq] at h
  obtain ⟨⟨x, b1⟩, h1, ⟨ys, b2⟩, h2, rfl, rfl⟩ := h
  obtain ⟨i1, i2⟩ := roL_get h2
  refine ⟨by simp [i1], fun j c' x' hc hx => ?_⟩
  cases j with
  | zero => simp at hc hx; subst hc; subst hx; exact ⟨b1, h1, fun h => by simp [h]⟩
  | succ j =>
   obtain ⟨b', q1, q2⟩ := i2 j c' x' (by simpa using hc) (by simpa using hx)
   exact ⟨b', q1, fun h => by simp [q2 h]⟩
theorem RR.roT {u : TV} {v : Value} (h : RR w A u v) : ∀ (n : Nat) (x : TV) (b : Bool), Go.Proofs.YtmedelmfkciblaaT.roT H n u = some (x, b) → x = u := by
 induction h with
 | fn g caps capv hl hc ih =>
  intro n x b hx
  simp only [Go.Proofs.YtmedelmfkciblaaT.roT, Option.bind_eq_some_iff, Option.some.injEq, Prod.mk.injEq] at hx
  obtain ⟨⟨xs, b1⟩, h1, rfl, rfl⟩ := hx
  obtain ⟨i1, i2⟩ := roL_get h1
  congr 1
  refine List.ext_getElem? fun j => ?_
  cases hj : caps[j]? with
  | none =>
   rw [List.getElem?_eq_none_iff] at hj ⊢
   show xs.length ≤ j
   omega
  | some c =>
   have hlt : j < xs.length := by have := (List.getElem?_eq_some_iff.1 hj).1; omega
   have hx : xs[j]? = some xs[j] := List.getElem?_eq_getElem hlt
   obtain ⟨b', q1, _⟩ := i2 j c xs[j] hj hx
   rw [hx, ih j c hj 0 _ _ q1]
 | _ =>
  intro n x b hx
  simp only [Go.Proofs.YtmedelmfkciblaaT.roT, Option.some.injEq, Prod.mk.injEq, reduceCtorEq] at hx
  try exact hx.1.symm
theorem roT_rv (hh : HR w0 S0 A w κ γ (wr0 H1 L)) (h0 : H1 0 = []) {u : TV} {v : Value} (hv : RV w κ H1 A u v) : ∀ (n : Nat) (x : TV) (b : Bool), roT H1 n u = some (x, b) → RV w κ' (fun _ => []) (Acall A γ b) x v := by
 have mono : ∀ {u v b}, RR w A u v → RR w (Acall A γ b) u v := fun h => h.keep (K := fun _ _ => True) (Keep.refl _ w) (fun _ _ _ => trivial) (fun _ _ h => .inl h)
 have monoV : ∀ {u v b b'}, RV w κ' (fun _ => []) (Acall A γ b') u v → (b' = true → b = true) → RV w κ' (fun _ => []) (Acall A γ b) u v := by
  intro u v b b' h hb
  induction h with
  | pure u v h => exact .pure _ _ (h.keep (K := fun _ _ => True) (Keep.refl _ w) (fun _ _ _ => trivial) (fun x y h => Acall_mono hb x y h))
  | nil z => exact .nil z
  | rf0 p z off hk hc => exact .rf0 p z off hk hc
  | rf p z n c B o off len hk hc hb hn => exact .rf p z n c B o off len hk hc hb hn
  | rfE p z n c B o off o1 c1 hk hc g1 g2 g3 => exact .rfE p z n c B o off o1 c1 hk hc g1 g2 g3
  | ptS p z n c B o i f hk hc hi hf => exact .ptS p z n c B o i f hk hc hi hf
  | ptP p B o f n hk hc hf => exact .ptP p B o f n hk hc hf
  | ag cs vs hl hc ih => exact .ag cs vs hl ih
  | tu cs vs hl hc ih => exact .tu cs vs hl ih
  | fn g cs vs hl hc ih => exact .fn g cs vs hl ih
 have rfc : ∀ (p : Path) (off len : Nat) (v : Value), RV w κ H1 A (.rf p off len) v → ∀ (n : Nat) (x : TV) (b : Bool), roT H1 n (.rf p off len) = some (x, b) → RV w κ' (fun _ => []) (Acall A γ b) x v := by
  intro p off len v hv n x b hx
  simp only [roT] at hx
  split at hx
  case h_2 => cases hx
  rename_i z es hc
  simp only [Option.some.injEq, Prod.mk.injEq] at hx
  obtain ⟨rfl, rfl⟩ := hx
  exact .pure _ _ (roT_rf hh h0 hv hc)
 have ptc : ∀ (p : Path) (i f : Nat) (v : Value), RV w κ H1 A (.pt p i f) v → ∀ (n : Nat) (x : TV) (b : Bool), roT H1 n (.pt p i f) = some (x, b) → RV w κ' (fun _ => []) (Acall A γ b) x v := by
  intro p i f v hv n x b hx
  simp only [roT, Option.bind_eq_some_iff] at hx
  obtain ⟨cs, hc, hx⟩ := hx
  split at hx
  ·split at hx
   case isFalse => cases hx
   rename_i hle
   simp only [Option.some.injEq, Prod.mk.injEq] at hx
   obtain ⟨rfl, rfl⟩ := hx
   have := roT_pt hh h0 (n := cs.length - f) hv hc (by omega)
   rw [List.take_of_length_le (by simp)] at this
   exact .pure _ _ this
  ·split at hx
   case isFalse => cases hx
   rename_i hle
   simp only [Option.some.injEq, Prod.mk.injEq] at hx
   obtain ⟨rfl, rfl⟩ := hx
   exact .pure _ _ (roT_pt hh h0 hv hc hle)
 induction hv with
 | pure u v h =>
  intro n x b hx
  rw [h.roT n x b hx]
  exact .pure _ _ (mono h)
 | nil z =>
  intro n x b hx
  simp only [roT, Option.some.injEq, Prod.mk.injEq] at hx
  obtain ⟨rfl, rfl⟩ := hx
  exact .pure _ _ (.sl0 z)
 | rf0 p z off hk hc => exact rfc _ _ _ _ (.rf0 p z off hk hc)
 | rf p z n c B o off len hk hc hb hn => exact rfc _ _ _ _ (.rf p z n c B o off len hk hc hb hn)
 | rfE p z n c B o off o1 c1 hk hc g1 g2 g3 => exact rfc _ _ _ _ (.rfE p z n c B o off o1 c1 hk hc g1 g2 g3)
 | ptS p z n c B o i f hk hc hi hf => exact ptc _ _ _ _ (.ptS p z n c B o i f hk hc hi hf)
 | ptP p B o f n hk hc hf => exact ptc _ _ _ _ (.ptP p B o f n hk hc hf)
 | tu cs vs hl hc ih => intro n x b hx; simp [roT] at hx
 | ag cs vs hl hc ih =>
  intro n x b hx
  simp only [roT, Option.bind_eq_some_iff, Option.some.injEq, Prod.mk.injEq] at hx
  obtain ⟨⟨xs, b1⟩, h1, rfl, rfl⟩ := hx
  obtain ⟨i1, i2⟩ := roL_get h1
  refine .ag xs vs (by omega) fun j y hy => ?_
  have hlt : j < cs.length := by have := (List.getElem?_eq_some_iff.1 hy).1; omega
  have hcj : cs[j]? = some cs[j] := List.getElem?_eq_getElem hlt
  obtain ⟨b', q1, q2⟩ := i2 j _ y hcj hy
  exact monoV (ih j _ hcj n y b' q1) q2
 | fn g cs vs hl hc ih =>
  intro n x b hx
  simp only [roT, Option.bind_eq_some_iff, Option.some.injEq, Prod.mk.injEq] at hx
  obtain ⟨⟨xs, b1⟩, h1, rfl, rfl⟩ := hx
  obtain ⟨i1, i2⟩ := roL_get h1
  refine .fn g xs vs (by omega) fun j y hy => ?_
  have hlt : j < cs.length := by have := (List.getElem?_eq_some_iff.1 hy).1; omega
  have hcj : cs[j]? = some cs[j] := List.getElem?_eq_getElem hlt
  obtain ⟨b', q1, q2⟩ := i2 j _ y hcj hy
  exact monoV (ih j _ hcj 0 y b' q1) q2
mutual
theorem roT_kill {d : Path → Bool} (hl : ∀ q, Live H q → d q = false) : ∀ (u : TV) (n : Nat) (x : TV) (b : Bool), roT H n u = some (x, b) → killT d u = u
 | .rf p off len, n, x, b, h => by
  simp only [roT] at h
  split at h
  case h_2 => cases h
  rename_i z es hc
  simp [killT, hl p ⟨_, hc, rfl⟩]
 | .pt p i f, n, x, b, h => by
  simp only [roT, Option.bind_eq_some_iff] at h
  obtain ⟨cs, hc, _⟩ := h
  have : Live H p := by
   simp only [rowAt, Option.bind_eq_some_iff] at hc
   obtain ⟨es, ⟨nd, q1, q2⟩, q3⟩ := hc
   refine ⟨nd, q1, ?_⟩
   unfold rows at q2
   split at q2 <;> first | rfl | cases q2
  simp [killT, hl p this]
 | .ag cs, n, x, b, h => by
  simp only [roT, Option.bind_eq_some_iff] at h
  obtain ⟨⟨xs, b1⟩, h1, _⟩ := h
  simp only [killT]; rw [roL_kill hl cs n xs b1 h1]
 | .fn g cs, n, x, b, h => by
  simp only [roT, Option.bind_eq_some_iff] at h
  obtain ⟨⟨xs, b1⟩, h1, _⟩ := h
  simp only [killT]; rw [roL_kill hl cs 0 xs b1 h1]
 | .tu cs, n, x, b, h => by simp [roT] at h
 | .b _, _, _, _, _ => rfl
 | .i _ _, _, _, _, _ => rfl
 | .f _, _, _, _, _ => rfl
 | .s _, _, _, _, _ => rfl
 | .np, _, _, _, _ => rfl
 | .sl _ _ _, _, _, _, _ => rfl
 | .po _ _, _, _, _, _ => rfl
 | .junk, _, _, _, _ => rfl
 | .pin _, _, _, _, _ => rfl
theorem roL_kill {d : Path → Bool} (hl : ∀ q, Live H q → d q = false) : ∀ (us : List TV) (n : Nat) (xs : List TV) (b : Bool), roL H n us = some (xs, b) → killL d us = us
 | [], _, _, _, _ => rfl
 | u :: us, n, xs, b, h => by
  simp only [roL, Option.bind_eq_some_iff] at h
  obtain ⟨⟨x, b1⟩, h1, ⟨ys, b2⟩, h2, _⟩ := h
  simp only [killL]
  rw [roT_kill hl u n x b1 h1, roL_kill hl us n ys b2 h2]
end
end
end Go.Proofs.YtmedelmfkciblaaT


namespace Go.Proofs.YtmedelmfkciblaaT
set_option linter.unusedVariables false
set_option linter.unusedSimpArgs false
open Go
section
variable {P : Program} {F : Fr} {st : St} {w w' w0 : World} {S0 : Nat → Nat → Prop} {κ κ' : Path → Value} {γ γ' : Nat → Nat → Option Path} {H H' H1 : Hp} {A A' K : Nat → Nat → Prop} {L : List TV} {o : Oper} {E : Eff} {root : Nat}
def Fit (c : TV) : Prop := c ≠ .junk ∧ (∀ vs, c ≠ .tu vs) ∧ isAg c = false
def Cs (w : World) (κ : Path → Value) (H : Hp) (A : Nat → Nat → Prop) (u : TV) (v : Value) : Prop :=
 (∀ c ∈ cellsT u, Fit c) → isAg u = isAgV v ∧ (cellsT u).length = (cellsV v).length ∧ ∀ (j : Nat) (c : TV) (y : Value), (cellsT u)[j]? = some c → (cellsV v)[j]? = some y → Rs w κ H A c y
theorem RV.cs {u : TV} {v : Value} (h : RV w κ H A u v) : Cs w κ H A u v := by
 intro hf
 have hnj : u ≠ .junk := by rintro rfl; exact (hf .junk (by simp [cellsT])).1 rfl
 have hn : isAg u = true ∨ ∀ vs, u ≠ .tu vs := by
  by_cases hg : isAg u = true
  ·exact .inl hg
  ·refine .inr fun vs hh => ?_
   exact (hf (.tu vs) (by rw [hh]; simp [cellsT])).2.1 vs rfl
 obtain ⟨l1, l2⟩ := rv_cells h (fun c hc => (hf c hc).1) hn
 exact ⟨rv_agv h hnj, l1, fun j c y hc hy => (l2 j c y hc hy).rs⟩
theorem Cs.after {u : TV} {v : Value} (h : Cs w κ H A u v) (hl : ∀ q, Live H' q → Live H q ∧ κ' q = κ q ∧ shapeAt H' q = shapeAt H q) : Cs w κ' H' A u v := by
 intro hf
 obtain ⟨h1, h2, h3⟩ := h hf
 exact ⟨h1, h2, fun j c y hc hy => (h3 j c y hc hy).after hl⟩
structure Took (κ κ' : Path → Value) (H H1 : Hp) (n : Nat) (ds : List Path) : Prop where
 zero : H1 0 = []
 kap : ∀ q, (∀ j r, q ≠ (0, n + j) :: r) → κ' q = κ q
 shp : ∀ q, (∀ p ∈ ds, ¬ p <+: q) → shapeAt H1 q = shapeAt H q
 liv : ∀ q, Live H1 q → ∀ p ∈ ds, ¬ p <+: q
theorem Took.live {n : Nat} {ds : List Path} (h : Took κ κ' H H1 n ds) (q : Path) (hq : Live H1 q) : Live H q ∧ κ' q = κ q ∧ shapeAt H1 q = shapeAt H q := by
 have e := h.shp q (h.liv q hq)
 refine ⟨by rw [live_iff] at hq ⊢; rw [← e]; exact hq, h.kap q ?_, e⟩
 rintro j r rfl
 obtain ⟨x, hx, _⟩ := hq
 exact not0_of_live h.zero hx _ _ rfl
theorem Took.trans {κ1 κ2 κ3 : Path → Value} {H1 H2 H3 : Hp} {n m : Nat} {d1 d2 : List Path} (h : Took κ1 κ2 H1 H2 n d1) (h' : Took κ2 κ3 H2 H3 (n + m) d2) : Took κ1 κ3 H1 H3 n (d1 ++ d2) := by
 refine ⟨h'.zero, fun q hq => ?_, fun q hq => ?_, fun q hq p hp => ?_⟩
 ·rw [h'.kap q (fun j r hh => hq (m + j) r (by rw [hh, Nat.add_assoc])), h.kap q hq]
 ·exact (h'.shp q fun p hp => hq p (List.mem_append_right _ hp)).trans (h.shp q fun p hp => hq p (List.mem_append_left _ hp))
 ·rcases List.mem_append.1 hp with hp | hp
  ·exact h.liv q (h'.live q hq).1 p hp
  ·exact h'.liv q hq p hp
theorem take1_out {c x : TV} {d : List Path} (h : take1 H c = some (x, H1, d)) : isAg x = false := by
 unfold take1 at h
 split at h
 ·split at h
  ·simp only [Option.some.injEq, Prod.mk.injEq] at h; obtain ⟨rfl, _, _⟩ := h; rfl
  ·cases h
 ·split at h
  ·simp only [Option.some.injEq, Prod.mk.injEq] at h; obtain ⟨rfl, _, _⟩ := h; rfl
  ·cases h
 ·simp only [Option.some.injEq, Prod.mk.injEq] at h; obtain ⟨rfl, _, _⟩ := h; rfl
 ·split at h
  ·rename_i hn
   simp only [Option.some.injEq, Prod.mk.injEq] at h; obtain ⟨rfl, _, _⟩ := h
   cases c <;> first | rfl | cases hn
  ·cases h
theorem notAg_cells {x : TV} (h : isAg x = false) : cellsT x = [x] := by cases x <;> first | rfl | cases h
theorem tkOf_ok {u : TV} {us : List TV} {d : List Path} (ht : takeL (cellsT u) H = some (us, H1, d)) : cellsT (tkOf u us) = us ∧ isAg (tkOf u us) = isAg u := by
 cases hg : isAg u with
 | true =>
  have e : tkOf u us = .ag us := by simp only [tkOf, hg, if_true]
  rw [e]; exact ⟨rfl, rfl⟩
 | false =>
  rw [notAg_cells hg] at ht
  simp only [takeL, Option.bind_eq_some_iff, Option.some.injEq] at ht
  obtain ⟨⟨x, H5, d5⟩, q1, y, q2, q3⟩ := ht
  subst q2
  simp only [Prod.mk.injEq] at q3
  obtain ⟨rfl, _, _⟩ := q3
  have := take1_out q1
  simp only [tkOf, hg, Bool.false_eq_true, if_false, List.headD_cons]
  exact ⟨notAg_cells this, this⟩
theorem takeCells_ok {u : TV} {v : Value} {us : List TV} {d : List Path} (h : HR w0 S0 A w κ γ (wr0 H L)) (h0 : H 0 = []) (hc : Cs w κ H A u v) (ht : takeL (cellsT u) H = some (us, H1, d)) :
  ∃ κ' γ', HR w0 S0 A w κ' γ' (wr0 H1 (L ++ us)) ∧ Took κ κ' H H1 L.length d ∧ us.length = (cellsV v).length ∧ isAg u = isAgV v ∧ (cellsT u).length = (cellsV v).length ∧
   ∀ (m : Nat) (y : Value), (cellsV v)[m]? = some y → κ' [(0, L.length + m)] = y := by
 obtain ⟨c1, c2, c3⟩ := hc (takeL_fit ht)
 obtain ⟨κ', γ', k1, k2, k3, k4, k5, k6, k7, k8⟩ := takeL_ok (cellsT u) (cellsV v) L us H H1 κ γ d h h0 c2 c3 ht
 exact ⟨κ', γ', k1, ⟨k2, k5, k6, k8⟩, by omega, c1, c2, k4⟩
theorem takeArgs_ok : ∀ (ms : List Mode) (as : List (TV × Nat)) (vs : List Value) (L : List TV) (H H1 : Hp) (κ : Path → Value) (γ : Nat → Nat → Option Path) (tk : List TV) (ds : List Path) (ps : List (Option Path)),
  HR w0 S0 A w κ γ (wr0 H L) → H 0 = [] → as.length = vs.length → (∀ (j : Nat) (u : TV) (n : Nat) (v : Value), as[j]? = some (u, n) → vs[j]? = some v → Cs w κ H A u v) → takeArgs H ms as = some (tk, H1, ds, ps) →
  ∃ κ' γ', HR w0 S0 A w κ' γ' (wr0 H1 (L ++ ownCells ms tk)) ∧ Took κ κ' H H1 L.length ds ∧ tk.length = as.length ∧ ms.length = as.length ∧
   (ownCells ms tk).length = (ownVals ms vs).length ∧ ps.length = (ownCells ms tk).length ∧ (∀ (m : Nat) (v : Value), (ownVals ms vs)[m]? = some v → κ' [(0, L.length + m)] = v) ∧
   (∀ (j : Nat) (u : TV) (v : Value), ms[j]? ≠ some .ro → tk[j]? = some u → vs[j]? = some v → isAg u = isAgV v ∧ (cellsT u).length = (cellsV v).length)
 | [], [], vs, L, H, H1, κ, γ, tk, ds, ps, h, h0, hl, hc, ht => by
  simp only [takeArgs, Option.some.injEq, Prod.mk.injEq] at ht
  obtain ⟨rfl, rfl, rfl, rfl⟩ := ht
  have : vs = [] := List.eq_nil_of_length_eq_zero (by simpa using hl.symm)
  subst this
  exact ⟨κ, γ, by simpa [ownCells] using h, ⟨h0, fun _ _ => rfl, fun _ _ => rfl, by simp⟩, rfl, rfl, rfl, rfl, by simp [ownVals], by simp⟩
 | .ro :: ms, (u, n) :: as, vs, L, H, H1, κ, γ, tk, ds, ps, h, h0, hl, hc, ht => by
  cases vs with
  | nil => simp at hl
  | cons v vs =>
   simp only [takeArgs, Option.bind_eq_some_iff, Option.some.injEq, Prod.mk.injEq] at ht
   obtain ⟨⟨tk', H2, ds', ps'⟩, h1, rfl, rfl, rfl, rfl⟩ := ht
   obtain ⟨κ', γ', g1, g2, g3, g4, g5, g6, g7, g8⟩ := takeArgs_ok ms as vs L H _ κ γ tk' _ _ h h0 (by simpa using hl) (fun j u n v h1 h2 => hc (j + 1) u n v (by simpa using h1) (by simpa using h2)) h1
   refine ⟨κ', γ', g1, g2, by simp [g3], by simp [g4], g5, g6, g7, fun j u v h1 h2 h3 => ?_⟩
   cases j with
   | zero => exact absurd rfl h1
   | succ j => exact g8 j u v (by simpa using h1) (by simpa using h2) (by simpa using h3)
 | .own :: ms, (u, n) :: as, vs, L, H, H1, κ, γ, tk, ds, ps, h, h0, hl, hc, ht => by
  cases vs with
  | nil => simp at hl
  | cons v vs =>
   simp only [takeArgs, Option.bind_eq_some_iff, Option.some.injEq, Prod.mk.injEq] at ht
   obtain ⟨⟨us, H2, d2⟩, ht1, ⟨tk', H3, ds', ps'⟩, ht2, rfl, rfl, rfl, rfl⟩ := ht
   obtain ⟨κ1, γ1, e1, e2, e3, e4, e5, e6⟩ := takeCells_ok h h0 (hc 0 u n v rfl rfl) ht1
   obtain ⟨κ', γ', g1, g2, g3, g4, g5, g6, g7, g8⟩ := takeArgs_ok ms as vs (L ++ us) H2 H3 κ1 γ1 tk' ds' ps' e1 e2.zero (by simpa using hl)
    (fun j u n v h1 h2 => (hc (j + 1) u n v (by simpa using h1) (by simpa using h2)).after e2.live) ht2
   obtain ⟨hct, hia⟩ := tkOf_ok ht1
   have eoc : ownCells (.own :: ms) (tkOf u us :: tk') = us ++ ownCells ms tk' := by
    show cellsT _ ++ ownCells ms tk' = _
    rw [hct]
   have hlen : (L ++ us).length = L.length + us.length := by simp
   refine ⟨κ', γ', by rw [eoc, ← List.append_assoc]; exact g1, e2.trans (by rw [← hlen]; exact g2), by simp [g3], by simp [g4], ?_, ?_, fun m y hy => ?_, fun j x y h1 h2 h3 => ?_⟩
   ·rw [eoc]; simp only [ownVals, List.length_append]; omega
   ·rw [eoc]; simp only [List.length_append, List.length_map]; omega
   ·simp only [ownVals] at hy
    rcases Nat.lt_or_ge m (cellsV v).length with hm | hm
    ·rw [List.getElem?_append_left hm] at hy
     rw [g2.kap _ (by intro j r hh; simp at hh; omega)]
     exact e6 m y hy
    ·rw [List.getElem?_append_right hm] at hy
     have := g7 _ y hy
     rwa [show (L ++ us).length + (m - (cellsV v).length) = L.length + m by omega] at this
   ·cases j with
    | zero =>
     simp at h2 h3; subst h2; subst h3
     exact ⟨hia.trans e4, by rw [hct]; exact e3⟩
    | succ j => exact g8 j x y (by simpa using h1) (by simpa using h2) (by simpa using h3)
 | [], _ :: _, _, _, _, _, _, _, _, _, _, _, _, _, _, ht => by simp [takeArgs] at ht
 | m :: _, [], _, _, _, _, _, _, _, _, _, _, _, _, _, ht => by cases m <;> simp [takeArgs] at ht
theorem pathOf_dead {c x : TV} {d : List Path} {p : Path} (ht : take1 H c = some (x, H1, d)) (hp : pathOf c = some p) : p ∈ d := by
 unfold pathOf at hp
 split at hp
 ·simp only [Option.some.injEq] at hp; subst hp
  simp only [take1] at ht
  split at ht
  ·simp only [Option.some.injEq, Prod.mk.injEq] at ht; rw [← ht.2.2]; simp
  ·cases ht
 ·simp only [Option.some.injEq] at hp; subst hp
  simp only [take1] at ht
  split at ht
  ·simp only [Option.some.injEq, Prod.mk.injEq] at ht; rw [← ht.2.2]; simp
  ·cases ht
 ·cases hp
theorem pathOf_deadL : ∀ {cs us : List TV} {H H1 : Hp} {d : List Path} {m : Nat} {c : TV} {p : Path}, takeL cs H = some (us, H1, d) → cs[m]? = some c → pathOf c = some p → p ∈ d
 | [], _, _, _, _, m, c, p, _, h, _ => by simp at h
 | c0 :: cs, us, H, H1, d, m, c, p, ht, h, hp => by
  simp only [takeL, Option.bind_eq_some_iff, Option.some.injEq, Prod.mk.injEq] at ht
  obtain ⟨⟨x, H2, d1⟩, h1, ⟨ys, H3, d2⟩, h2, _, _, rfl⟩ := ht
  cases m with
  | zero =>
   simp at h; subst h
   exact List.mem_append_left _ (pathOf_dead h1 hp)
  | succ m => exact List.mem_append_right _ (pathOf_deadL h2 (by simpa using h) hp)
theorem takeArgs_src {HV : Hp} : ∀ (ms : List Mode) (as : List (TV × Nat)) (vs : List Value) (H H1 : Hp) (tk : List TV) (ds : List Path) (ps : List (Option Path)),
  as.length = vs.length → (∀ (j : Nat) (u : TV) (n : Nat) (v : Value), as[j]? = some (u, n) → vs[j]? = some v → RV w κ HV A u v) → takeArgs H ms as = some (tk, H1, ds, ps) →
  ∀ (m : Nat) (p : Path), ps[m]? = some (some p) → p ∈ ds ∧ ∃ c, pathOf c = some p ∧ ∀ y, (ownVals ms vs)[m]? = some y → RV w κ HV A c y
 | [], [], vs, H, H1, tk, ds, ps, hl, hv, ht, m, p, hp => by
  simp only [takeArgs, Option.some.injEq, Prod.mk.injEq] at ht
  obtain ⟨rfl, rfl, rfl, rfl⟩ := ht
  simp at hp
 | .ro :: ms, (u, n) :: as, vs, H, H1, tk, ds, ps, hl, hv, ht, m, p, hp => by
  cases vs with
  | nil => simp at hl
  | cons v vs =>
   simp only [takeArgs, Option.bind_eq_some_iff, Option.some.injEq, Prod.mk.injEq] at ht
   obtain ⟨⟨tk', H2, ds', ps'⟩, h1, rfl, rfl, rfl, rfl⟩ := ht
   exact takeArgs_src ms as vs H _ tk' _ _ (by simpa using hl) (fun j u n v h1 h2 => hv (j + 1) u n v (by simpa using h1) (by simpa using h2)) h1 m p hp
 | .own :: ms, (u, n) :: as, vs, H, H1, tk, ds, ps, hl, hv, ht, m, p, hp => by
  cases vs with
  | nil => simp at hl
  | cons v vs =>
   simp only [takeArgs, Option.bind_eq_some_iff, Option.some.injEq, Prod.mk.injEq] at ht
   obtain ⟨⟨us, H2, d2⟩, ht1, ⟨tk', H3, ds', ps'⟩, ht2, rfl, rfl, rfl, rfl⟩ := ht
   have hf := takeL_fit ht1
   have hn : isAg u = true ∨ ∀ vs, u ≠ .tu vs := by
    by_cases hg : isAg u = true
    ·exact .inl hg
    ·refine .inr fun vs hh => ?_
     exact (hf (.tu vs) (by rw [hh]; simp [cellsT])).2.1 vs rfl
   obtain ⟨l1, l2⟩ := rv_cells (hv 0 u n v rfl rfl) (fun c hc => (hf c hc).1) hn
   rcases Nat.lt_or_ge m (cellsT u).length with hm | hm
   ·rw [List.getElem?_append_left (by simpa using hm), List.getElem?_map] at hp
    obtain ⟨c, hc⟩ : ∃ c, (cellsT u)[m]? = some c := ⟨_, List.getElem?_eq_getElem hm⟩
    simp only [hc, Option.map_some, Option.some.injEq] at hp
    refine ⟨List.mem_append_left _ (pathOf_deadL ht1 hc hp), c, hp, fun y hy => l2 m c y hc ?_⟩
    simp only [ownVals] at hy
    rwa [List.getElem?_append_left (by omega)] at hy
   ·rw [List.getElem?_append_right (by simpa using hm), List.length_map] at hp
    obtain ⟨q1, c, q2, q3⟩ := takeArgs_src ms as vs H2 _ tk' ds' ps' (by simpa using hl) (fun j u n v h1 h2 => hv (j + 1) u n v (by simpa using h1) (by simpa using h2)) ht2 _ p hp
    refine ⟨List.mem_append_right _ q1, c, q2, fun y hy => q3 y ?_⟩
    simp only [ownVals] at hy
    rwa [List.getElem?_append_right (by omega), ← l1] at hy
 | [], _ :: _, _, _, _, _, _, _, _, _, ht, _, _, _ => by simp [takeArgs] at ht
 | m :: _, [], _, _, _, _, _, _, _, _, ht, _, _, _ => by cases m <;> simp [takeArgs] at ht
end
end Go.Proofs.YtmedelmfkciblaaT


namespace Go.Proofs.YtmedelmfkciblaaT
set_option linter.unusedVariables false
set_option linter.unusedSimpArgs false
open Go
section
variable {P : Program} {F : Fr} {st : St} {w w' w0 : World} {S0 : Nat → Nat → Prop} {κ κ' κ1 : Path → Value} {γ γ' γ1 : Nat → Nat → Option Path} {H H' H1 : Hp} {A A' K : Nat → Nat → Prop} {L : List TV} {o : Oper} {E : Eff} {root : Nat}
theorem under_true {ds : List Path} {q : Path} (h : ∀ p ∈ ds, ¬ p <+: q) : under ds q = false := by
 cases hu : under ds q with
 | false => rfl
 | true =>
  obtain ⟨p, h1, h2⟩ := List.any_eq_true.1 hu
  exact absurd (List.isPrefixOf_iff_prefix.1 h2) (h p h1)
theorem RV.took {n : Nat} {ds : List Path} {u : TV} {v : Value} (hv : RV w κ H A u v) (hk : Took κ κ1 H H1 n ds) (h0 : H 0 = []) : RV w κ1 H1 A (killT (under ds) u) v := by
 refine hv.kill (K := fun _ _ => True) _ (fun q hq hl => ?_) (Keep.refl _ w) (fun _ _ _ => trivial)
 refine ⟨hk.kap q fun j r hh => ?_, hk.shp q (under_false hq)⟩
 exact live_notroot h0 hl _ _ hh
theorem roArgs_ok {ds : List Path} {n0 : Nat} (hk : Took κ κ1 H H1 n0 ds) (h0 : H 0 = []) (hh : HR w0 S0 A w κ1 γ1 (wr0 H1 L)) :
  ∀ (ms : List Mode) (as : List (TV × Nat)) (tk : List TV) (vs : List Value) (args : List TV) (ro : Bool), (∀ (j : Nat) (u : TV) (n : Nat) (v : Value), as[j]? = some (u, n) → vs[j]? = some v → RV w κ H A u v) →
   roArgs H1 ms as tk = some (args, ro) → ms.length = args.length ∧ args.length = as.length ∧ ownCells ms args = ownCells ms tk ∧
   (∀ (j : Nat) (u : TV) (v : Value), ms[j]? = some .ro → args[j]? = some u → vs[j]? = some v → RV w κ' (fun _ => []) (Acall A γ1 ro) u v) ∧
   (∀ (j : Nat), ms[j]? ≠ some .ro → args[j]? = tk[j]?)
 | [], [], [], vs, args, ro, _, h => by
  simp only [roArgs, Option.some.injEq, Prod.mk.injEq] at h
  obtain ⟨rfl, rfl⟩ := h
  simp [ownCells]
 | .ro :: ms, (u, n) :: as, t :: tk, vs, args, ro, hv, h => by
  simp only [roArgs, Option.bind_eq_some_iff, Option.some.injEq, Prod.mk.injEq] at h
  obtain ⟨⟨x, b1⟩, h1, ⟨ys, b2⟩, h2, rfl, rfl⟩ := h
  obtain ⟨i1, i2, i3, i4, i5⟩ := roArgs_ok hk h0 hh ms as tk (vs.drop 1) ys b2 (fun j u n v h1 h2 => hv (j + 1) u n v (by simpa using h1) (by simpa [Nat.add_comm] using h2)) h2
  refine ⟨by simp [i1], by simp [i2], by simpa [ownCells] using i3, fun j y v hm hy hvj => ?_, fun j hj => ?_⟩
  ·have mono : ∀ {b'} {u v}, RV w κ' (fun _ => []) (Acall A γ1 b') u v → (b' = true → (b1 || b2) = true) → RV w κ' (fun _ => []) (Acall A γ1 (b1 || b2)) u v := by
    intro b' u v h hb
    induction h with
    | pure u v h => exact .pure _ _ (h.keep (K := fun _ _ => True) (Keep.refl _ w) (fun _ _ _ => trivial) (fun x y h => Acall_mono hb x y h))
    | nil z => exact .nil z
    | rf0 p z off hk hc => exact .rf0 p z off hk hc
    | rf p z n c B o off len hk hc hb hn => exact .rf p z n c B o off len hk hc hb hn
    | rfE p z n c B o off o1 c1 hk hc g1 g2 g3 => exact .rfE p z n c B o off o1 c1 hk hc g1 g2 g3
    | ptS p z n c B o i f hk hc hi hf => exact .ptS p z n c B o i f hk hc hi hf
    | ptP p B o f n hk hc hf => exact .ptP p B o f n hk hc hf
    | ag cs vs hl hc ih => exact .ag cs vs hl ih
    | tu cs vs hl hc ih => exact .tu cs vs hl ih
    | fn g cs vs hl hc ih => exact .fn g cs vs hl ih
   cases j with
   | zero =>
    simp only [List.getElem?_cons_zero, Option.some.injEq] at hy
    subst hy
    have hr := (hv 0 u n v rfl hvj).took hk h0
    rw [roT_kill (fun q hq => under_true (hk.liv q hq)) u n x b1 h1] at hr
    exact mono (roT_rv hh hk.zero hr n x b1 h1) (fun h => by simp [h])
   | succ j => exact mono (i4 j y v (by simpa using hm) (by simpa using hy) (by simpa [Nat.add_comm] using hvj)) (fun h => by simp [h])
  ·cases j with
   | zero => exact absurd rfl hj
   | succ j => simpa using i5 j (by simpa using hj)
 | .own :: ms, (u, n) :: as, t :: tk, vs, args, ro, hv, h => by
  simp only [roArgs, Option.bind_eq_some_iff, Option.some.injEq, Prod.mk.injEq] at h
  obtain ⟨⟨ys, b2⟩, h2, rfl, rfl⟩ := h
  obtain ⟨i1, i2, i3, i4, i5⟩ := roArgs_ok hk h0 hh ms as tk (vs.drop 1) ys b2 (fun j u n v h1 h2 => hv (j + 1) u n v (by simpa using h1) (by simpa [Nat.add_comm] using h2)) h2
  refine ⟨by simp [i1], by simp [i2], by simp [ownCells, i3], fun j y v hm hy hvj => ?_, fun j hj => ?_⟩
  ·cases j with
   | zero => simp at hm
   | succ j => exact i4 j y v (by simpa using hm) (by simpa using hy) (by simpa [Nat.add_comm] using hvj)
  ·cases j with
   | zero => rfl
   | succ j => simpa using i5 j (by simpa using hj)
 | [], _ :: _, _, _, _, _, _, h => by simp [roArgs] at h
 | [], [], _ :: _, _, _, _, _, h => by simp [roArgs] at h
 | m :: _, [], _, _, _, _, _, h => by cases m <;> simp [roArgs] at h
 | m :: _, _ :: _, [], _, _, _, _, h => by cases m <;> simp [roArgs] at h
def κcall (κ : Path → Value) : Path → Value
 | s :: r => if s.1 = 1 then κ ((0, s.2) :: r) else κ (s :: r)
 | [] => κ []
def γcall (γ : Nat → Nat → Option Path) (b o : Nat) : Option Path :=
 match γ b o with
 | some (s :: r) => if s.1 = 0 then some ((1, s.2) :: r) else none
 | _ => none
theorem γcall_some {b o : Nat} {q : Path} (h : γcall γ b o = some q) : ∃ m r, γ b o = some ((0, m) :: r) ∧ q = (1, m) :: r := by
 unfold γcall at h
 split at h
 ·rename_i s r hg
  split at h
  ·rename_i hs
   simp only [Option.some.injEq] at h
   obtain ⟨s1, s2⟩ := s
   simp only at hs; subst hs
   exact ⟨s2, r, hg, h.symm⟩
  ·cases h
 ·cases h
theorem args_rel {ms : List Mode} {args tk : List TV} {vs : List Value} {ro : Bool} (hh : HR w0 S0 A w κ1 γ1 (wr0 H1 (ownCells ms tk))) (h1 : ms.length = args.length) (h2 : args.length = vs.length) (h3 : ownCells ms args = ownCells ms tk)
  (hro : ∀ (j : Nat) (u : TV) (v : Value), ms[j]? = some .ro → args[j]? = some u → vs[j]? = some v → RV w (κcall κ1) (fun _ => []) (Acall A γ1 ro) u v)
  (hag : ∀ (j : Nat) (u : TV) (v : Value), ms[j]? ≠ some .ro → args[j]? = some u → vs[j]? = some v → isAg u = isAgV v ∧ (cellsT u).length = (cellsV v).length)
  (hval : ∀ (m : Nat) (v : Value), (ownVals ms vs)[m]? = some v → κ1 [(0, m)] = v) : ArgsR w (κcall κ1) (γcall γ1) (Acall A γ1 ro) ms args vs := by
 refine ⟨h2, h1, hag, hro, fun m c hc => ?_, fun m v hv => ?_⟩
 ·rw [h3] at hc
  have hT := hh.root (0, m) c (by simpa [wr0] using hc)
  have e : κcall κ1 [(1, m)] = κ1 [(0, m)] := by simp [κcall]
  rw [e]
  refine hT.ren (K := fun _ _ => True) _ (fun r nd _ _ => ⟨by simp [κcall], fun b o hb => ⟨?_, trivial⟩⟩) (Keep.refl _ w) (fun _ _ _ => trivial) (fun _ _ h => .inl h)
  simp only [List.singleton_append] at hb ⊢
  simp [γcall, hb]
 ·simpa [κcall] using hval m v hv
def κback (κ κ' : Path → Value) (root : Nat) : Path → Value
 | s :: r => if s.1 = root then κ' ((0, s.2) :: r) else if s.1 = 0 then κ' ((1, s.2) :: r) else κ (s :: r)
 | [] => κ []
def γback (γ γ' : Nat → Nat → Option Path) (root b o : Nat) : Option Path :=
 match γ' b o with
 | some (s :: r) => if s.1 = 0 then some ((root, s.2) :: r) else if s.1 = 1 then some ((0, s.2) :: r) else none
 | some [] => none
 | none => match γ b o with
  | some (s :: r) => if s.1 = 0 then none else some (s :: r)
  | x => x
theorem γback_some {b o : Nat} {q : Path} (h : γback γ γ' root b o = some q) : (∃ q', γ' b o = some q') ∨ (∃ q', γ b o = some q') := by
 unfold γback at h
 split at h
 ·rename_i hg; exact .inl ⟨_, hg⟩
 ·cases h
 ·split at h
  ·rename_i hg; exact .inr ⟨_, hg⟩
  ·exact .inr ⟨_, h⟩
theorem HR.called (h : HR w0 S0 A w κ1 γ1 (wr0 H1 L)) (h0 : H1 0 = []) (hroot : H1 root = []) (hr : 2 ≤ root)
  (hown' : ∀ b o q, γ' b o = some q → b < w'.heap.size ∧ ((∃ q', γcall γ1 b o = some q') ∨ w.heap.size ≤ b))
  (hchg : Chg (fun b o => ∃ q, γcall γ1 b o = some q) w w') {cells Lb : List TV}
  (hres : ∀ (m : Nat) (c : TV), cells[m]? = some c → TR w' κ' γ' A [(0, m)] c (κ' [(0, m)]))
  (hlb : ∀ (m : Nat) (c : TV), Lb[m]? = some c → TR w' κ' γ' A [(1, m)] c (κ' [(1, m)])) :
  HR w0 S0 A w' (κback κ1 κ' root) (γback γ1 γ' root) (wr0 (setRoot H1 root cells) Lb) := by
 have hr0 : root ≠ 0 := by omega
 have notgiven : ∀ b o q, γ1 b o = some q → (∀ j r, q ≠ (0, j) :: r) → γ' b o = none ∧ ¬ ∃ q, γcall γ1 b o = some q := by
  intro b o q hg hq
  have hn : ¬ ∃ q, γcall γ1 b o = some q := by
   rintro ⟨q', hq'⟩
   obtain ⟨m, r, h1, _⟩ := γcall_some hq'
   rw [hg] at h1; cases h1
   exact hq _ _ rfl
  refine ⟨?_, hn⟩
  cases hg' : γ' b o with
  | none => rfl
  | some q' =>
   rcases (hown' b o q' hg').2 with h1 | h1
   ·exact absurd h1 hn
   ·have := (h.own b o q hg).1; omega
 refine ⟨?_, fun b o q hb => ?_, h.old, ?_⟩
 ·rintro ⟨i, m⟩ u hu
  by_cases hi0 : i = 0
  ·subst hi0
   simp only [wr0, if_true] at hu
   have e : κback κ1 κ' root [(0, m)] = κ' [(1, m)] := by simp [κback, Ne.symm hr0]
   rw [e]
   refine (hlb m u hu).ren (K := fun _ _ => True) _ (fun r nd _ _ => ⟨by simp [κback, Ne.symm hr0], fun b o hb => ⟨?_, trivial⟩⟩) (Keep.refl _ w') (fun _ _ _ => trivial) (fun _ _ h => h)
   simp only [List.singleton_append] at hb ⊢
   simp [γback, hb]
  ·simp only [wr0, hi0, if_false, setRoot] at hu
   by_cases hir : i = root
   ·subst hir
    simp only [if_true] at hu
    have e : κback κ1 κ' i [(i, m)] = κ' [(0, m)] := by simp [κback]
    rw [e]
    refine (hres m u hu).ren (K := fun _ _ => True) _ (fun r nd _ _ => ⟨by simp [κback], fun b o hb => ⟨?_, trivial⟩⟩) (Keep.refl _ w') (fun _ _ _ => trivial) (fun _ _ h => h)
    simp only [List.singleton_append] at hb ⊢
    simp [γback, hb]
   ·simp only [hir, if_false] at hu
    have e : κback κ1 κ' root [(i, m)] = κ1 [(i, m)] := by simp [κback, hir, hi0]
    rw [e]
    refine h.root_keep (s := (i, m)) (K := fun b o => ¬ ∃ q, γcall γ1 b o = some q) (by simpa [wr0, hi0] using hu) (fun q hq hl => ?_) hchg.keep (fun b o ha => ?_)
    ·obtain ⟨t, rfl⟩ := hq
     refine ⟨by simp [κback, hir, hi0], fun b o hb => ?_⟩
     obtain ⟨g1, g2⟩ := notgiven b o _ hb (by intro j r hh; simp at hh; exact hi0 hh.1.1)
     refine ⟨?_, g2⟩
     simp only [List.singleton_append] at hb ⊢
     simp [γback, g1, hb, hi0]
    ·rintro ⟨q, hq⟩
     obtain ⟨m', r, h1, _⟩ := γcall_some hq
     exact h.notA h1 ha
 ·rcases γback_some hb with ⟨q', hq'⟩ | ⟨q', hq'⟩
  ·obtain ⟨g1, g2⟩ := hown' b o q' hq'
   refine ⟨g1, ?_⟩
   rcases g2 with ⟨q2, hq2⟩ | g2
   ·obtain ⟨m', r, h1, _⟩ := γcall_some hq2
    exact (h.own b o _ h1).2
   ·exact .inr (Nat.le_trans h.size_le g2)
  ·obtain ⟨g1, g2⟩ := h.own b o q' hq'
   exact ⟨Nat.lt_of_lt_of_le g1 hchg.keep.size, g2⟩
 ·refine h.chg.trans hchg ?_
  rintro b o ⟨q, hq⟩ hlt
  obtain ⟨m', r, h1, _⟩ := γcall_some hq
  rcases (h.own b o _ h1).2 with h3 | h3
  ·exact h3
  ·omega
theorem HR.putback1 (h : HR w0 S0 A w κ γ (wr0 H L)) (h0 : H 0 = []) {m : Nat} {u : TV} (hm : L[m]? = some u) {p : Path} (hp : (cellAt H p).isSome = true) (hx : κ [(0, m)] = κ p)
  (hcell : ∀ pn s nd, p = pn ++ [s] → cellAt H pn = some nd → ∀ B off arr T, cellAddr (κ pn) nd s = some (B, off) → w.heap[B]? = some (.cells arr T (0, 0)) → (arr[off]?).getD undef = κ p) :
  ∃ κ' γ', HR w0 S0 A w κ' γ' (wr0 (modH H (fun _ => u) p) (L.modify m fun _ => .junk)) ∧ κ' p = κ p ∧ (∀ q, ¬ p <+: q → κ' q = κ q) := by
 have hcellm : cellAt (wr0 H L) [(0, m)] = some u := by rw [cellAt_root]; simpa [wr0] using hm
 have hT := h.root (0, m) u (by simpa [wr0] using hm)
 rw [hx] at hT
 have hj := h.junk hcellm
 have hl := live_junk hcellm
 have e1 : modH (wr0 H L) (fun _ => .junk) [(0, m)] = wr0 H (L.modify m fun _ => .junk) := by
  funext y
  simp only [modH, wr0]
  by_cases hy : y = 0 <;> simp [hy, modd]
 rw [e1] at hj hl
 obtain ⟨u0, hu0⟩ := Option.isSome_iff_exists.1 hp
 have hpz := not0_of_live h0 hu0
 refine ⟨mvκ κ [(0, m)] p 0 (κ p), fun b o => (γ b o).map (rnm [(0, m)] p 0), ?_, mvκ_self, fun q hq => mvκ_not q hq⟩
 rcases List.eq_nil_or_concat p with rfl | ⟨pn, s, rfl⟩
 ·cases hu0
 ·rw [List.concat_eq_append] at *
  cases pn with
  | nil =>
   simp only [List.nil_append] at *
   have hs0 : s.1 ≠ 0 := by intro hh; exact hpz s.2 [] (by rw [← hh])
   have kept : ∀ q, ¬ [s] <+: q → Live (wr0 H (L.modify m fun _ => .junk)) q → mvκ κ [(0, m)] [s] 0 (κ [s]) q = κ q ∧
     ∀ b o, γ b o = some q → (γ b o).map (rnm [(0, m)] [s] 0) = some q ∧ True := by
    intro q hq hlq
    refine ⟨mvκ_not q hq, fun b o hb => ⟨?_, trivial⟩⟩
    rw [hb]; simp [rnm_not _ _ _ _ (hl q hlq)]
   have hset := hj.setroot s.1 ((H s.1).modify s.2 fun _ => u) (κ' := mvκ κ [(0, m)] [s] 0 (κ [s])) (γ' := fun b o => (γ b o).map (rnm [(0, m)] [s] 0)) (K := fun _ _ => True)
    (fun q hq hlq => kept q (by rintro ⟨t, rfl⟩; exact hq s.2 t rfl) hlq) (fun s' hs' => mvκ_not _ (by rintro ⟨t, ht⟩; simp at ht; exact hs' (by rw [← ht.1]))) (Keep.refl _ w) (fun _ _ _ => trivial)
    (fun b o q hb => by
     cases hg : γ b o with
     | none => simp [hg] at hb
     | some q0 => exact h.own b o q0 hg) h.chg (fun j c hc => by
     rw [List.getElem?_modify] at hc
     by_cases hjs : s.2 = j
     ·subst hjs
      cases hh : (H s.1)[s.2]? with
      | none => simp [hh] at hc
      | some y =>
       simp only [hh, Option.map_eq_map, Option.map_some, if_true, Option.some.injEq] at hc
       subst hc
       have := hT.move0 (t := [s])
       rw [mvκ_self]; exact this
     ·simp only [hjs, if_false, Option.map_eq_map, Option.map_id'] at hc
      have hne : ¬ [s] <+: [(s.1, j)] := by rintro ⟨t, ht⟩; simp at ht; exact hjs (by rw [ht.1])
      rw [mvκ_not _ hne]
      refine hj.root_keep (s := (s.1, j)) (by simpa [wr0, hs0] using hc) (fun q hq hlq => kept q (fun hh => ?_) hlq) (Keep.refl (fun _ _ => True) w) (fun _ _ _ => trivial)
      obtain ⟨t, rfl⟩ := hq
      obtain ⟨t', ht'⟩ := hh
      simp at ht'
      exact hjs (by rw [ht'.1]))
   have e2 : (fun x => if x = s.1 then (H s.1).modify s.2 (fun _ => u) else wr0 H (L.modify m fun _ => .junk) x) = wr0 (modH H (fun _ => u) [s]) (L.modify m fun _ => .junk) := by
    funext y
    simp only [wr0, modH, modd]
    by_cases hy : y = s.1
    ·subst hy; simp [hs0]
    ·simp [hy]
   rwa [e2] at hset
  | cons s0 r =>
   rw [cellAt_snoc _ _ (by simp)] at hu0
   simp only [Option.bind_eq_some_iff] at hu0
   obtain ⟨nd, q1, q2⟩ := hu0
   have hpn := not0_of_live h0 q1
   have hf := hj.fill (ps := [(0, m)]) (u' := u) (x := κ (s0 :: r ++ [s])) (o1 := 0) (by rw [cellAt_wr0 _ _ hpn]; exact q1) q2 hl hT.move0 (fun B off arr T g1 g2 => hcell _ s nd rfl q1 B off arr T g1 g2)
   rw [modH_wr0 _ _ _ hpz] at hf
   exact hf
end
end Go.Proofs.YtmedelmfkciblaaT


namespace Go.Proofs.YtmedelmfkciblaaT
set_option linter.unusedVariables false
set_option linter.unusedSimpArgs false
open Go
section
variable {P : Program} {F : Fr} {st : St} {w w' w0 : World} {S0 : Nat → Nat → Prop} {κ κ' κ1 : Path → Value} {γ γ' γ1 : Nat → Nat → Option Path} {H H' H1 : Hp} {A A' K : Nat → Nat → Prop} {L : List TV} {o : Oper} {E : Eff} {root : Nat}
theorem cellAddr_shape {k : Value} {nd nd' : TV} {s : Nat × Nat} (h : shape nd = shape nd') : cellAddr k nd s = cellAddr k nd' s := by
 cases nd with
 | sl o1 z1 e1 =>
  cases o1 with
  | true =>
   cases nd' with
   | sl o2 z2 e2 => cases o2 <;> simp [shape] at h; obtain ⟨rfl, _⟩ := h; cases k <;> first | rfl | (rename_i a _ _; cases a <;> rfl)
   | po o2 e2 => cases o2 <;> simp [shape] at h
   | _ => simp [shape] at h
  | false =>
   cases nd' with
   | sl o2 z2 e2 => cases o2 <;> first | rfl | simp [shape] at h
   | po o2 e2 => cases o2 <;> first | rfl | simp [shape] at h
   | _ => rfl
 | po o1 e1 =>
  cases o1 with
  | true =>
   cases nd' with
   | sl o2 z2 e2 => cases o2 <;> simp [shape] at h
   | po o2 e2 => cases o2 <;> simp [shape] at h; cases k <;> first | rfl | (rename_i a; cases a <;> rfl)
   | _ => simp [shape] at h
  | false =>
   cases nd' with
   | sl o2 z2 e2 => cases o2 <;> first | rfl | simp [shape] at h
   | po o2 e2 => cases o2 <;> first | rfl | simp [shape] at h
   | _ => rfl
 | _ =>
  cases nd' with
  | sl o2 z2 e2 => cases o2 <;> first | rfl | simp [shape] at h
  | po o2 e2 => cases o2 <;> first | rfl | simp [shape] at h
  | _ => rfl
theorem down_modd_some (φ : TV → TV) : ∀ (r q : Path) (u : TV), ¬ r <+: q → (down (modd φ r u) q).isSome = (down u q).isSome := by
 intro r
 induction r with
 | nil => intro q u h; exact absurd (List.nil_prefix) h
 | cons s r ih =>
  intro q u h
  cases q with
  | nil => simp [down]
  | cons s' q =>
   simp only [down, modd]
   by_cases hs : s' = s
   ·subst hs
    rw [kid_upk_same]
    have h' : ¬ r <+: q := fun hh => h (by simpa using hh)
    cases kid u s' with
    | none => rfl
    | some x => simpa using ih q x h'
   ·rw [kid_upk_ne _ _ _ _ hs]
theorem cellAt_modH_some (φ : TV → TV) (t q : Path) (h : ¬ t <+: q) : (cellAt (modH H φ t) q).isSome = (cellAt H q).isSome := by
 cases t with
 | nil => exact absurd (List.nil_prefix) h
 | cons s r =>
  cases q with
  | nil => rfl
  | cons s' q =>
   simp only [cellAt]
   rw [modH_get]
   by_cases hs : s' = s
   ·subst hs
    simp only [if_true]
    have h' : ¬ r <+: q := fun hh => h (by simpa using hh)
    cases (H s'.1)[s'.2]? with
    | none => rfl
    | some x => simpa using down_modd_some φ r q x h'
   ·simp [hs]
def Conc (w : World) (κ : Path → Value) (H : Hp) (p : Path) : Prop :=
 ∀ pn s nd, p = pn ++ [s] → cellAt H pn = some nd → ∀ B off arr T, cellAddr (κ pn) nd s = some (B, off) → w.heap[B]? = some (.cells arr T (0, 0)) → (arr[off]?).getD undef = κ p
theorem Conc.mod {p t : Path} {φ : TV → TV} (h : Conc w κ H p) (hn : ¬ t <+: p) (hκ : ∀ q, ¬ t <+: q → κ' q = κ q) : Conc w κ' (modH H φ t) p := by
 intro pn s nd hp hc B off arr T ha hb
 have hn2 : ¬ t <+: pn := fun hh => hn (by rw [hp]; exact hh.trans (List.prefix_append _ _))
 have hs := shapeAt_modH H φ t pn hn2
 rw [hκ pn hn2] at ha
 rw [hκ p hn]
 have hsome := cellAt_modH_some (H := H) φ t pn hn2
 rw [hc] at hsome
 obtain ⟨nd0, h0⟩ := Option.isSome_iff_exists.1 hsome.symm
 simp only [shapeAt, hc, h0, Option.bind_some] at hs
 exact h pn s nd0 hp h0 B off arr T (by rw [cellAddr_shape hs.symm]; exact ha) hb
theorem putBack_ok : ∀ (bks : List (Option Path)) (outs : List TV) (bs : List Nat) (L : List TV) (H : Hp) (κ : Path → Value) (γ : Nat → Nat → Option Path), HR w0 S0 A w κ γ (wr0 H L) → H 0 = [] →
  bks.length = outs.length → bks.length = bs.length →
  (∀ (j : Nat) (p : Path) (c : Nat) (u : TV), bks[j]? = some (some p) → bs[j]? = some c → outs[j]? = some u → L[c]? = some u ∧ κ [(0, c)] = κ p ∧ (cellAt H p).isSome = true ∧ Conc w κ H p) →
  (∀ (j k : Nat) (p p' : Path), j < k → bks[j]? = some (some p) → bks[k]? = some (some p') → ¬ p <+: p' ∧ bs[j]? ≠ bs[k]?) →
  ∃ κ' γ' L', HR w0 S0 A w κ' γ' (wr0 (putBack H bks outs) L') ∧ (putBack H bks outs) 0 = [] ∧ (∀ q, (∀ p, some p ∈ bks → ¬ p <+: q ∨ q = p) → (∀ p, some p ∈ bks → p <+: q → q = p) → κ' q = κ q) ∧
   (∀ q, (∀ p, some p ∈ bks → ¬ p <+: q) → shapeAt (putBack H bks outs) q = shapeAt H q)
 | [], outs, bs, L, H, κ, γ, h, h0, hl, hl2, hi, hd => by
  have : outs = [] := List.eq_nil_of_length_eq_zero (by simpa using hl.symm)
  subst this
  exact ⟨κ, γ, L, h, h0, fun _ _ _ => rfl, fun _ _ => rfl⟩
 | none :: bks, u :: outs, c :: bs, L, H, κ, γ, h, h0, hl, hl2, hi, hd => by
  obtain ⟨κ', γ', L', g1, g2, g3, g4⟩ := putBack_ok bks outs bs L H κ γ h h0 (by simpa using hl) (by simpa using hl2) (fun j p c u h1 h2 h3 => hi (j + 1) p c u (by simpa using h1) (by simpa using h2) (by simpa using h3))
   (fun j k p p' hjk h1 h2 => by simpa using hd (j + 1) (k + 1) p p' (by omega) (by simpa using h1) (by simpa using h2))
  exact ⟨κ', γ', L', g1, g2, fun q hq hq' => g3 q (fun p hp => hq p (List.mem_cons_of_mem _ hp)) (fun p hp => hq' p (List.mem_cons_of_mem _ hp)), fun q hq => g4 q fun p hp => hq p (List.mem_cons_of_mem _ hp)⟩
 | some p :: bks, u :: outs, c :: bs, L, H, κ, γ, h, h0, hl, hl2, hi, hd => by
  obtain ⟨i1, i2, i3, i4⟩ := hi 0 p c u rfl rfl rfl
  obtain ⟨κ1, γ1, e1, e2, e3⟩ := h.putback1 h0 i1 i3 i2 i4
  have n0 : ∀ c', ¬ p <+: [(0, c')] := by
   rintro c' ⟨t, ht⟩
   obtain ⟨x, hx⟩ := Option.isSome_iff_exists.1 i3
   cases p with
   | nil => cases hx
   | cons s r =>
    simp at ht
    obtain ⟨rfl, _⟩ := ht
    exact not0_of_live h0 hx c' r rfl
  obtain ⟨κ', γ', L', g1, g2, g3, g4⟩ := putBack_ok bks outs bs _ _ κ1 γ1 e1 (modH_zero _ h0) (by simpa using hl) (by simpa using hl2)
   (fun j p' c' u' h1 h2 h3 => by
    obtain ⟨q1, q2, q3, q4⟩ := hi (j + 1) p' c' u' (by simpa using h1) (by simpa using h2) (by simpa using h3)
    obtain ⟨d1, d2⟩ := hd 0 (j + 1) p p' (by omega) rfl (by simpa using h1)
    have hcc : c ≠ c' := by rintro rfl; exact d2 (by simpa using h2.symm)
    refine ⟨?_, ?_, ?_, q4.mod d1 e3⟩
    ·rw [List.getElem?_modify, q1]; simp [hcc]
    ·rw [e3 _ (n0 c'), e3 _ d1]; exact q2
    ·rw [cellAt_modH_some _ _ _ d1]; exact q3)
   (fun j k p p' hjk h1 h2 => by simpa using hd (j + 1) (k + 1) p p' (by omega) (by simpa using h1) (by simpa using h2))
  refine ⟨κ', γ', L', g1, g2, fun q hq hq' => ?_, fun q hq => ?_⟩
  ·rw [g3 q (fun p hp => hq p (List.mem_cons_of_mem _ hp)) (fun p hp => hq' p (List.mem_cons_of_mem _ hp))]
   by_cases hpq : p <+: q
   ·rw [hq' p (by simp) hpq]; exact e2
   ·exact e3 q hpq
  ·simp only [putBack]
   rw [g4 q fun p hp => hq p (List.mem_cons_of_mem _ hp)]
   exact shapeAt_modH _ _ _ _ (hq p (by simp))
 | _ :: _, [], _, _, _, _, _, _, _, hl, _, _, _ => by simp at hl
 | _ :: _, _ :: _, [], _, _, _, _, _, _, _, hl, _, _ => by simp at hl
end
end Go.Proofs.YtmedelmfkciblaaT


namespace Go.Proofs.YtmedelmfkciblaaT
set_option linter.unusedVariables false
set_option linter.unusedSimpArgs false
open Go
section
variable {P : Program} {F : Fr} {st : St} {w w' w0 : World} {S0 : Nat → Nat → Prop} {κ κ' κ1 : Path → Value} {γ γ' γ1 : Nat → Nat → Option Path} {H H' H1 : Hp} {A A' K : Nat → Nat → Prop} {L : List TV} {o : Oper} {E : Eff} {root : Nat}
theorem backOk_len : ∀ (ps : List (Option Path)) (os : List (Option TV)), backOk H H1 ps os → ps.length = os.length ∧ (backsOf ps os).length = os.length
 | [], [], _ => ⟨rfl, rfl⟩
 | p :: ps, none :: os, h => by
  have h' : backOk H H1 ps os := by cases p <;> exact h
  obtain ⟨h1, h2⟩ := backOk_len ps os h'
  exact ⟨by simp [h1], by simp [backsOf, h2]⟩
 | p :: ps, some u :: os, h => by
  have h' : backOk H H1 ps os := by cases p with
   | none => exact h
   | some p => exact h.2
  obtain ⟨h1, h2⟩ := backOk_len ps os h'
  exact ⟨by simp [h1], by simp [backsOf, h2]⟩
 | [], _ :: _, h => by simp [backOk] at h
 | _ :: _, [], h => by simp [backOk] at h
theorem backOk_at : ∀ (ps : List (Option Path)) (os : List (Option TV)), backOk H H1 ps os → ∀ (j : Nat) (p : Path), (backsOf ps os)[j]? = some (some p) →
  ps[j]? = some (some p) ∧ (cellAt H1 p).isSome = true ∧ ∃ u, os[j]? = some (some u) ∧ shape u = shapeAt H p
 | [], [], _, j, p, hj => by simp [backsOf] at hj
 | q :: ps, none :: os, h, j, p, hj => by
  have h' : backOk H H1 ps os := by cases q <;> exact h
  cases j with
  | zero => simp [backsOf] at hj
  | succ j => simpa using backOk_at ps os h' j p (by simpa [backsOf] using hj)
 | q :: ps, some u :: os, h, j, p, hj => by
  have h' : backOk H H1 ps os := by cases q with
   | none => exact h
   | some q => exact h.2
  cases j with
  | zero =>
   simp only [backsOf, List.getElem?_cons_zero, Option.some.injEq] at hj
   subst hj
   exact ⟨rfl, h.1.2.1, u, rfl, h.1.1⟩
  | succ j => simpa using backOk_at ps os h' j p (by simpa [backsOf] using hj)
 | [], _ :: _, h, _, _, _ => by simp [backOk] at h
 | _ :: _, [], h, _, _, _ => by simp [backOk] at h
theorem backOk_ne : ∀ (ps : List (Option Path)) (os : List (Option TV)), backOk H H1 ps os → ∀ (j k : Nat) (p p' : Path), j < k → (backsOf ps os)[j]? = some (some p) → (backsOf ps os)[k]? = some (some p') → p ≠ p'
 | [], [], _, j, k, p, p', _, hj, _ => by simp [backsOf] at hj
 | q :: ps, none :: os, h, j, k, p, p', hjk, hj, hk => by
  have h' : backOk H H1 ps os := by cases q <;> exact h
  obtain ⟨k, rfl⟩ : ∃ k', k = k' + 1 := ⟨k - 1, by omega⟩
  cases j with
  | zero => simp [backsOf] at hj
  | succ j => exact backOk_ne ps os h' j k p p' (by omega) (by simpa [backsOf] using hj) (by simpa [backsOf] using hk)
 | q :: ps, some u :: os, h, j, k, p, p', hjk, hj, hk => by
  have h' : backOk H H1 ps os := by cases q with
   | none => exact h
   | some q => exact h.2
  obtain ⟨k, rfl⟩ : ∃ k', k = k' + 1 := ⟨k - 1, by omega⟩
  cases j with
  | zero =>
   simp only [backsOf, List.getElem?_cons_zero, Option.some.injEq] at hj
   subst hj
   rintro rfl
   exact h.1.2.2 (List.mem_of_getElem? (by simpa [backsOf] using hk))
  | succ j => exact backOk_ne ps os h' j k p p' (by omega) (by simpa [backsOf] using hj) (by simpa [backsOf] using hk)
 | [], _ :: _, h, _, _, _, _, _, _, _ => by simp [backOk] at h
 | _ :: _, [], h, _, _, _, _, _, _, _ => by simp [backOk] at h
theorem down_modd_self (φ : TV → TV) : ∀ (r : Path) (u : TV), down (modd φ r u) r = (down u r).map φ
 | [], u => rfl
 | s :: r, u => by
  simp only [down, modd, kid_upk_same]
  cases kid u s with
  | none => rfl
  | some x => simpa using down_modd_self φ r x
theorem cellAt_modH_self (φ : TV → TV) (p : Path) : cellAt (modH H φ p) p = (cellAt H p).map φ := by
 cases p with
 | nil => rfl
 | cons s r =>
  simp only [cellAt]
  rw [modH_get]
  simp only [if_true]
  cases (H s.1)[s.2]? with
  | none => rfl
  | some x => simpa using down_modd_self φ r x
theorem down_modd_apart (φ : TV → TV) : ∀ (r q : Path) (u : TV), ¬ r <+: q → ¬ q <+: r → down (modd φ r u) q = down u q
 | [], q, u, h, _ => absurd List.nil_prefix h
 | s :: r, [], u, _, h => absurd List.nil_prefix h
 | s :: r, s' :: q, u, h, h' => by
  simp only [down, modd]
  by_cases hs : s' = s
  ·subst hs
   rw [kid_upk_same]
   cases kid u s' with
   | none => rfl
   | some x => simpa using down_modd_apart φ r q x (fun hh => h (by simpa using hh)) (fun hh => h' (by simpa using hh))
  ·rw [kid_upk_ne _ _ _ _ hs]
theorem cellAt_modH_apart (φ : TV → TV) (p q : Path) (h : ¬ p <+: q) (h' : ¬ q <+: p) : cellAt (modH H φ p) q = cellAt H q := by
 cases p with
 | nil => exact absurd List.nil_prefix h
 | cons s r =>
  cases q with
  | nil => rfl
  | cons s' q =>
   simp only [cellAt]
   rw [modH_get]
   by_cases hs : s' = s
   ·subst hs
    simp only [if_true]
    cases (H s'.1)[s'.2]? with
    | none => rfl
    | some x => simpa using down_modd_apart φ r q x (fun hh => h (by simpa using hh)) (fun hh => h' (by simpa using hh))
   ·simp [hs]
theorem putBack_apart : ∀ (bks : List (Option Path)) (us : List TV) (H : Hp) (q : Path), (∀ p, some p ∈ bks → ¬ p <+: q ∧ ¬ q <+: p) → cellAt (putBack H bks us) q = cellAt H q
 | [], us, H, q, _ => by simp [putBack]
 | none :: bks, [], H, q, _ => by simp [putBack]
 | some p :: bks, [], H, q, _ => by simp [putBack]
 | none :: bks, u :: us, H, q, h => by
  simp only [putBack]
  exact putBack_apart bks us H q fun p hp => h p (List.mem_cons_of_mem _ hp)
 | some p :: bks, u :: us, H, q, h => by
  simp only [putBack]
  rw [putBack_apart bks us _ q fun p hp => h p (List.mem_cons_of_mem _ hp)]
  exact cellAt_modH_apart _ _ _ (h p (by simp)).1 (h p (by simp)).2
theorem putBack_at : ∀ (bks : List (Option Path)) (us : List TV) (H : Hp), (∀ (j k : Nat) (p p' : Path), j < k → bks[j]? = some (some p) → bks[k]? = some (some p') → ¬ p <+: p' ∧ ¬ p' <+: p) →
  ∀ (j : Nat) (p : Path) (u : TV), bks[j]? = some (some p) → us[j]? = some u → (cellAt H p).isSome = true → cellAt (putBack H bks us) p = some u
 | [], us, H, _, j, p, u, hj, _, _ => by simp at hj
 | b :: bks, [], H, _, j, p, u, _, hu, _ => by simp at hu
 | none :: bks, x :: us, H, h, j, p, u, hj, hu, hc => by
  cases j with
  | zero => simp at hj
  | succ j =>
   simp only [putBack]
   exact putBack_at bks us H (fun j k p p' hjk h1 h2 => h (j + 1) (k + 1) p p' (by omega) (by simpa using h1) (by simpa using h2)) j p u (by simpa using hj) (by simpa using hu) hc
 | some q :: bks, x :: us, H, h, j, p, u, hj, hu, hc => by
  simp only [putBack]
  cases j with
  | zero =>
   simp only [List.getElem?_cons_zero, Option.some.injEq] at hj hu
   subst hj; subst hu
   rw [putBack_apart]
   ·rw [cellAt_modH_self]
    obtain ⟨y, hy⟩ := Option.isSome_iff_exists.1 hc
    rw [hy]; rfl
   ·intro p hp
    obtain ⟨k, hk⟩ := List.getElem?_of_mem hp
    exact ⟨(h 0 (k + 1) q p (by omega) rfl (by simpa using hk)).2, (h 0 (k + 1) q p (by omega) rfl (by simpa using hk)).1⟩
  | succ j =>
   refine putBack_at bks us _ (fun j k p p' hjk h1 h2 => h (j + 1) (k + 1) p p' (by omega) (by simpa using h1) (by simpa using h2)) j p u (by simpa using hj) (by simpa using hu) ?_
   rw [cellAt_modH_some _ _ _ (h 0 (j + 1) q p (by omega) rfl (by simpa using hj)).1]
   exact hc
theorem modH_setRoot (φ : TV → TV) (p : Path) (cells : List TV) (h : ∀ j r, p ≠ (root, j) :: r) : modH (setRoot H root cells) φ p = setRoot (modH H φ p) root cells := by
 cases p with
 | nil => rfl
 | cons s r =>
  have hs : s.1 ≠ root := by intro hh; exact h s.2 r (by rw [← hh])
  funext y
  simp only [modH, setRoot]
  by_cases hy : y = s.1
  ·subst hy; simp [hs]
  ·simp [hy]
theorem putBack_setRoot (cells : List TV) : ∀ (bks : List (Option Path)) (us : List TV) (H : Hp), (∀ p, some p ∈ bks → ∀ j r, p ≠ (root, j) :: r) → putBack (setRoot H root cells) bks us = setRoot (putBack H bks us) root cells
 | [], us, H, _ => by simp [putBack]
 | none :: bks, [], H, _ => by simp [putBack]
 | some p :: bks, [], H, _ => by simp [putBack]
 | none :: bks, u :: us, H, h => by
  simp only [putBack]
  exact putBack_setRoot cells bks us H fun p hp => h p (List.mem_cons_of_mem _ hp)
 | some p :: bks, u :: us, H, h => by
  simp only [putBack]
  rw [modH_setRoot _ _ _ (h p (by simp))]
  exact putBack_setRoot cells bks us _ fun p hp => h p (List.mem_cons_of_mem _ hp)
theorem putBack_nil {r : Nat} : ∀ (bks : List (Option Path)) (us : List TV) (H : Hp), H r = [] → putBack H bks us r = []
 | [], us, H, h => by simpa [putBack] using h
 | none :: bks, [], H, h => by simpa [putBack] using h
 | some p :: bks, [], H, h => by simpa [putBack] using h
 | none :: bks, u :: us, H, h => by
  simp only [putBack]
  exact putBack_nil bks us H h
 | some p :: bks, u :: us, H, h => by
  simp only [putBack]
  exact putBack_nil bks us _ (modH_nil _ h)
theorem rv_head {c u : TV} {y : Value} {p q : Path} (hv : RV w κ H A c y) (hp : pathOf c = some p) (ht : TR w' κ' γ' A' q u y) (hs : shape u = shapeAt H p) : (shape u).isSome = true ∧ κ p = y := by
 unfold pathOf at hp
 split at hp
 ·rename_i q0 len
  simp only [Option.some.injEq] at hp; subst hp
  cases hv with
  | pure u v h => cases h
  | rf0 p z off hk hc => exact ⟨by rw [hs, hc]; rfl, hk⟩
  | rf p z n c B o off len' hk hc hb hn =>
   rw [hc] at hs
   refine ⟨by rw [hs]; rfl, ?_⟩
   generalize hy : Value.slice (some ⟨B, o + 0 * z, none⟩) len (c - 0) = y at ht
   cases ht with
   | pure p u v h => rw [h.noshape] at hs; cases hs
   | sl0 p z' hk' => cases hy
   | sl p z' n' c' B' o' es arr T hk' hl =>
    simp only [shape, Option.some.injEq, Prod.mk.injEq, true_and] at hs
    cases hy
    rw [hk]
    simp only [Nat.zero_mul, Nat.add_zero, Nat.sub_zero]
    rw [← hl, hs.2]
   | po p B' o' cs arr T hk' => cases hy
  | rfE p z n c B o off o1 c1 hk hc g1 g2 g3 => exact absurd rfl g3
 ·simp only [Option.some.injEq] at hp; subst hp
  cases hv with
  | pure u v h => cases h
  | ptS p z n c B o i f hk hc hi hf =>
   rw [hc] at hs
   refine ⟨by rw [hs]; rfl, ?_⟩
   generalize hy : Value.pointer (some ⟨B, o + 0 * z + 0, none⟩) = y at ht
   cases ht with
   | pure p u v h => rw [h.noshape] at hs; cases hs
   | sl0 p z' hk' => cases hy
   | sl p z' n' c' B' o' es arr T hk' hl => cases hy
   | po p B' o' cs arr T hk' => simp [shape] at hs
  | ptP p B o f n hk hc hf =>
   rw [hc] at hs
   exact ⟨by rw [hs]; rfl, by rw [hk]; rfl⟩
 ·cases hp
end
end Go.Proofs.YtmedelmfkciblaaT


namespace Go.Proofs.YtmedelmfkciblaaT
set_option linter.unusedVariables false
set_option linter.unusedSimpArgs false
open Go
section
variable {P : Program} {F : Fr} {st : St} {w w' w0 : World} {S0 : Nat → Nat → Prop} {κ κ' κ1 : Path → Value} {γ γ' γ1 : Nat → Nat → Option Path} {H H' H1 : Hp} {A A' K : Nat → Nat → Prop} {L : List TV} {o : Oper} {E : Eff} {root : Nat}
theorem takeArgs_nil : ∀ {ms : List Mode} {as : List (TV × Nat)} {H H1 : Hp} {tk : List TV} {ds : List Path} {ps : List (Option Path)} {r : Nat}, takeArgs H ms as = some (tk, H1, ds, ps) → H r = [] → H1 r = []
 | [], [], H, H1, tk, ds, ps, r, ht, h => by
  simp only [takeArgs, Option.some.injEq, Prod.mk.injEq] at ht
  obtain ⟨_, rfl, _⟩ := ht; exact h
 | .ro :: ms, (u, n) :: as, H, H1, tk, ds, ps, r, ht, h => by
  simp only [takeArgs, Option.bind_eq_some_iff, Option.some.injEq, Prod.mk.injEq] at ht
  obtain ⟨⟨tk', H2, ds', ps'⟩, h1, _, rfl, _, _⟩ := ht
  exact takeArgs_nil h1 h
 | .own :: ms, (u, n) :: as, H, H1, tk, ds, ps, r, ht, h => by
  simp only [takeArgs, Option.bind_eq_some_iff, Option.some.injEq, Prod.mk.injEq] at ht
  obtain ⟨⟨us, H2, d2⟩, ht1, ⟨tk', H3, ds', ps'⟩, ht2, _, rfl, _, _⟩ := ht
  exact takeArgs_nil ht2 (takeL_nil ht1 h)
 | [], _ :: _, _, _, _, _, _, _, ht, _ => by simp [takeArgs] at ht
 | m :: _, [], _, _, _, _, _, _, ht, _ => by cases m <;> simp [takeArgs] at ht
theorem TR.monoA {p : Path} {u : TV} {v : Value} (h : TR w κ γ A p u v) (hA : ∀ b o, A b o → A' b o) : TR w κ γ A' p u v :=
 h.ren (K := fun _ _ => True) _ (fun _ _ _ _ => ⟨rfl, fun _ _ hb => ⟨hb, trivial⟩⟩) (Keep.refl _ w) (fun _ _ _ => trivial) hA
def lbOf : List (Option Path) → List TV → List TV
 | some _ :: bs, u :: us => u :: lbOf bs us
 | none :: bs, _ :: us => .junk :: lbOf bs us
 | _, _ => []
theorem lbOf_at : ∀ (bs : List (Option Path)) (us : List TV) (m : Nat) (c : TV), (lbOf bs us)[m]? = some c → c = .junk ∨ ∃ p, bs[m]? = some (some p) ∧ us[m]? = some c
 | [], us, m, c, h => by simp [lbOf] at h
 | none :: bs, [], m, c, h => by simp [lbOf] at h
 | some p :: bs, [], m, c, h => by simp [lbOf] at h
 | none :: bs, u :: us, m, c, h => by
  cases m with
  | zero => simp [lbOf] at h; exact .inl h.symm
  | succ m => simpa using lbOf_at bs us m c (by simpa [lbOf] using h)
 | some p :: bs, u :: us, m, c, h => by
  cases m with
  | zero => simp [lbOf] at h; subst h; exact .inr ⟨p, rfl, rfl⟩
  | succ m => simpa using lbOf_at bs us m c (by simpa [lbOf] using h)
theorem lbOf_get : ∀ (bs : List (Option Path)) (us : List TV) (m : Nat) (p : Path) (u : TV), bs[m]? = some (some p) → us[m]? = some u → (lbOf bs us)[m]? = some u
 | [], us, m, p, u, h, _ => by simp at h
 | b :: bs, [], m, p, u, _, h => by simp at h
 | none :: bs, x :: us, m, p, u, h, hu => by
  cases m with
  | zero => simp at h
  | succ m => simpa [lbOf] using lbOf_get bs us m p u (by simpa using h) (by simpa using hu)
 | some q :: bs, x :: us, m, p, u, h, hu => by
  cases m with
  | zero => simpa [lbOf] using hu
  | succ m => simpa [lbOf] using lbOf_get bs us m p u (by simpa using h) (by simpa using hu)
theorem refTu_rv (r : Nat) : ∀ (res : List TV) (rs : List Value) (k : Nat), res.length = rs.length → (∀ (j : Nat) (u : TV) (v : Value), res[j]? = some u → rs[j]? = some v → isAg u = isAgV v ∧ (cellsT u).length = (cellsV v).length) →
  (∀ (m : Nat) (c : TV) (y : Value), (res.flatMap cellsT)[m]? = some c → (rs.flatMap cellsV)[m]? = some y → RV w κ H A (toRef [(r, k + m)] c) y) →
  (refTu r k res).length = rs.length ∧ ∀ (j : Nat) (u : TV) (v : Value), (refTu r k res)[j]? = some u → rs[j]? = some v → RV w κ H A u v
 | [], [], k, _, _, _ => by simp [refTu]
 | u :: res, v :: rs, k, hl, hag, hc => by
  obtain ⟨a1, a2⟩ := hag 0 u v rfl rfl
  have tail := refTu_rv r res rs (k + (cellsT u).length) (by simpa using hl) (fun j u v h1 h2 => hag (j + 1) u v (by simpa using h1) (by simpa using h2)) (fun m c y h1 h2 => by
   have := hc ((cellsT u).length + m) c y (by rw [List.flatMap_cons, List.getElem?_append_right (by omega)]; simpa using h1) (by rw [List.flatMap_cons, a2, List.getElem?_append_right (by omega)]; simpa using h2)
   rwa [Nat.add_assoc])
  have head : ∀ (m : Nat) (c : TV) (y : Value), (cellsT u)[m]? = some c → (cellsV v)[m]? = some y → RV w κ H A (toRef [(r, k + m)] c) y := fun m c y h1 h2 =>
   hc m c y (by rw [List.flatMap_cons, List.getElem?_append_left (List.getElem?_eq_some_iff.1 h1).1]; exact h1) (by rw [List.flatMap_cons, List.getElem?_append_left (List.getElem?_eq_some_iff.1 h2).1]; exact h2)
  cases hg : isAg u with
  | true =>
   obtain ⟨cs, rfl⟩ : ∃ cs, u = .ag cs := by cases u <;> first | exact ⟨_, rfl⟩ | cases hg
   rw [hg] at a1
   obtain ⟨vs, rfl⟩ : ∃ cs, v = .agg cs := by cases v <;> first | exact ⟨_, rfl⟩ | cases a1
   have e : refTu r k (.ag cs :: res) = .ag (refsFrom [] r k cs) :: refTu r (k + (cellsT (.ag cs)).length) res := rfl
   rw [e]
   refine ⟨by simp [tail.1], fun j x y hx hy => ?_⟩
   cases j with
   | succ j => exact tail.2 j x y (by simpa using hx) (by simpa using hy)
   | zero =>
    simp at hx hy; subst hx; subst hy
    have hlen : cs.length = vs.size := by simpa [cellsT, cellsV] using a2
    refine .ag _ _ (by rw [refsFrom_len]; exact hlen) fun m c hc' => ?_
    rw [refsFrom_get] at hc'
    cases hk : cs[m]? with
    | none => simp [hk] at hc'
    | some c0 =>
     simp only [hk, Option.map_some, Option.some.injEq] at hc'
     subst hc'
     have hlt := (List.getElem?_eq_some_iff.1 hk).1
     have hlt2 : m < vs.size := by omega
     have := head m c0 vs[m] hk (by simp [cellsV, hlt2])
     simpa [hlt2] using this
  | false =>
   obtain ⟨q1, q2⟩ := isAg_cells a1 hg
   have e : refTu r k (u :: res) = toRef [(r, k)] u :: refTu r (k + (cellsT u).length) res := by rw [q1]; cases u <;> first | rfl | cases hg
   rw [e]
   refine ⟨by simp [tail.1], fun j x y hx hy => ?_⟩
   cases j with
   | succ j => exact tail.2 j x y (by simpa using hx) (by simpa using hy)
   | zero =>
    simp at hx hy; subst hx; subst hy
    exact head 0 u v (by rw [q1]; rfl) (by rw [q2]; rfl)
 | [], _ :: _, _, hl, _, _ => by simp at hl
 | _ :: _, [], _, hl, _, _ => by simp at hl
theorem resT_rv {us : List TV} {rs : List Value} (hl : us.length = rs.length) (h : ∀ (j : Nat) (u : TV) (v : Value), us[j]? = some u → rs[j]? = some v → RV w κ H A u v) : RV w κ H A (resT us) (resV rs) := by
 match us, rs, hl with
 | [u], [v], _ => exact h 0 u v rfl rfl
 | [], [], _ => exact .tu [] #[] rfl (by simp)
 | u :: u' :: us, v :: v' :: rs, hl =>
  refine .tu _ _ (by simpa using hl) fun j x hx => ?_
  have hlt := (List.getElem?_eq_some_iff.1 hx).1
  have hlt2 : j < (v :: v' :: rs).length := by rw [← hl]; exact hlt
  have := h j x (v :: v' :: rs)[j] hx (List.getElem?_eq_getElem hlt2)
  simpa [List.getElem?_eq_getElem hlt2] using this
 | [u], [], hl => simp at hl
 | [u], _ :: _ :: _, hl => simp at hl
 | [], _ :: _, hl => simp at hl
 | _ :: _ :: _, [], hl => simp at hl
 | _ :: _ :: _, [_], hl => simp at hl
theorem resCells_rv : ∀ (res : List TV) (rs : List Value), res.length = rs.length → (∀ (j : Nat) (u : TV) (v : Value), res[j]? = some u → rs[j]? = some v → isAg u = isAgV v ∧ (cellsT u).length = (cellsV v).length) →
  (∀ (m : Nat) (c : TV) (y : Value), (res.flatMap cellsT)[m]? = some c → (rs.flatMap cellsV)[m]? = some y → RV w κ H A c y) →
  ∀ (j : Nat) (u : TV) (v : Value), res[j]? = some u → rs[j]? = some v → RV w κ H A u v
 | [], [], _, _, _, j, u, v, h, _ => by simp at h
 | u :: res, v :: rs, hl, hag, hc, j, x, y, hx, hy => by
  obtain ⟨a1, a2⟩ := hag 0 u v rfl rfl
  cases j with
  | succ j =>
   refine resCells_rv res rs (by simpa using hl) (fun j u v h1 h2 => hag (j + 1) u v (by simpa using h1) (by simpa using h2)) (fun m c y h1 h2 => ?_) j x y (by simpa using hx) (by simpa using hy)
   exact hc ((cellsT u).length + m) c y (by rw [List.flatMap_cons, List.getElem?_append_right (by omega)]; simpa using h1) (by rw [List.flatMap_cons, a2, List.getElem?_append_right (by omega)]; simpa using h2)
  | zero =>
   simp at hx hy; subst hx; subst hy
   have head : ∀ (m : Nat) (c : TV) (y : Value), (cellsT u)[m]? = some c → (cellsV v)[m]? = some y → RV w κ H A c y := fun m c y h1 h2 =>
    hc m c y (by rw [List.flatMap_cons, List.getElem?_append_left (List.getElem?_eq_some_iff.1 h1).1]; exact h1) (by rw [List.flatMap_cons, List.getElem?_append_left (List.getElem?_eq_some_iff.1 h2).1]; exact h2)
   cases hg : isAg u with
   | true =>
    obtain ⟨cs, rfl⟩ : ∃ cs, u = .ag cs := by cases u <;> first | exact ⟨_, rfl⟩ | cases hg
    rw [hg] at a1
    obtain ⟨vs, rfl⟩ : ∃ cs, v = .agg cs := by cases v <;> first | exact ⟨_, rfl⟩ | cases a1
    have hlen : cs.length = vs.size := by simpa [cellsT, cellsV] using a2
    refine .ag _ _ hlen fun m c hc' => ?_
    have hlt := (List.getElem?_eq_some_iff.1 hc').1
    have hlt2 : m < vs.size := by omega
    have := head m c vs[m] hc' (by simp [cellsV, hlt2])
    simpa [hlt2] using this
   | false =>
    obtain ⟨q1, q2⟩ := isAg_cells a1 hg
    exact head 0 u v (by rw [q1]; rfl) (by rw [q2]; rfl)
 | [], _ :: _, hl, _, _, _, _, _, _, _ => by simp at hl
 | _ :: _, [], hl, _, _, _, _, _, _, _ => by simp at hl
theorem TR.pure_of {p : Path} {u : TV} {v : Value} (h : TR w κ γ A p u v) (hs : (shape u).isSome = false) : RR w A u v := by
 cases h with
 | pure p u v h => exact h
 | _ => cases hs
theorem callW_ok {a : Act} {as : List (TV × Nat)} {vs : List Value} {g : FuncId} {dst : Option Nat} (hR : Rel F st a w) (hd : ∀ d, dst = some d → d < F.N) (hl : as.length = vs.length)
  (hv : ∀ κ γ, HR F.w0 F.S0 F.A w κ γ st.H → (∀ k, RV w κ st.H F.A (st.t k) ((a.tmps[k]?).getD undef)) → ∀ (j : Nat) (u : TV) (n : Nat) (v : Value), as[j]? = some (u, n) → vs[j]? = some v → RV w κ st.H F.A u v)
  (hE : callW P st root g as (· = E)) : Calls P g vs.toArray w fun e w' => ∃ x, e = .returned x ∧ Rel F (st.put dst E) (a.put dst x) w' := by
 obtain ⟨κ, γ, h1, h2, h3, h4, h5, h6, h7⟩ := hR
 have hv := hv κ γ h1 h4
 obtain ⟨al, ms, args, res, outs, hc, hroot, hr2, tk, H1, ds, ps, ro, t1, t2, t3, t4, t5⟩ := hE
 have hH : HR F.w0 F.S0 F.A w κ γ (wr0 st.H []) := by rw [wr0_self h2]; exact h1
 obtain ⟨κ1, γ1, g1, g2, g3, g4, g5, g6, g7, g8⟩ := takeArgs_ok ms as vs [] st.H H1 κ γ tk ds ps hH h2 hl (fun j u n v q1 q2 => (hv j u n v q1 q2).cs) t1
 have src := takeArgs_src (HV := st.H) ms as vs st.H H1 tk ds ps hl hv t1
 simp only [List.nil_append, List.length_nil, Nat.zero_add] at g1 g2 g7
 obtain ⟨r1, r2, r3, r4, r5⟩ := roArgs_ok (κ' := κcall κ1) g2 h2 g1 ms as tk vs args ro hv t2
 have hA : ArgsR w (κcall κ1) (γcall γ1) (Acall F.A γ1 ro) ms args vs := args_rel g1 r1 (r2.trans hl) r3 r4
  (fun j u v q0 q1 q2 => g8 j u v q0 (by rw [← r5 j q0]; exact q1) q2) g7
 have hnil : ∀ (j : Nat) (v : Value), (as.map fun a => nilT a.1)[j]? = some true → vs[j]? = some v → v = .slice none 0 0 := by
  intro j v hj hvj
  rw [List.getElem?_map, Option.map_eq_some_iff] at hj
  obtain ⟨⟨u, n⟩, hu, hn⟩ := hj
  have hr := hv j u n v hu hvj
  simp only at hn
  obtain ⟨z, rfl⟩ : ∃ z, u = .sl true z [] := by
   unfold nilT at hn
   split at hn
   ·exact ⟨_, rfl⟩
   ·cases hn
  cases hr with
  | pure _ _ h => cases h
  | nil => rfl
 refine (hc w vs _ _ _ hnil hA ?_ ?_).mono ?_
 ·intro b o q hb
  obtain ⟨m, r, q1, _⟩ := γcall_some hb
  exact (g1.own b o _ q1).1
 ·rintro b o (ha | ⟨_, q, q1, q2⟩)
  ·refine ⟨Nat.lt_of_lt_of_le (g1.old b o ha).1 g1.size_le, ?_⟩
   cases hg : γcall γ1 b o with
   | none => rfl
   | some q =>
    obtain ⟨m, r, q1, _⟩ := γcall_some hg
    exact absurd ha (g1.notA q1)
  ·refine ⟨(g1.own b o _ q1).1, ?_⟩
   cases hg : γcall γ1 b o with
   | none => rfl
   | some q' =>
    obtain ⟨m, r, q3, _⟩ := γcall_some hg
    rw [q1] at q3; cases q3
    exact absurd rfl (q2 m r)
 ·rintro e w' ⟨rs, κ', γ', rfl, hres, hout, hown', hchg⟩
  refine ⟨resV rs, rfl, ?_⟩
  have hA' : ∀ b o, (al = true ∧ Acall F.A γ1 ro b o) → F.A b o := by
   rintro b o ⟨ha, hac⟩
   rcases hac with hac | ⟨hro, _⟩
   ·exact hac
   ·rw [t3 ha] at hro; cases hro
  have H10 := g2.zero
  have H1root : H1 root = [] := takeArgs_nil t1 hroot
  obtain ⟨bl1, bl2⟩ := backOk_len ps outs t4
  have bat := backOk_at ps outs t4
  have bne := backOk_ne ps outs t4
  have hol : (outsT outs).length = outs.length := by simp [outsT]
  have bout : ∀ (j : Nat) (u : TV), outs[j]? = some (some u) → (outsT outs)[j]? = some u := by
   intro j u h; simp [outsT, h]
  generalize hbks : backsOf ps outs = bks at t5 bl2 bat bne
  generalize hous : outsT outs = us at t5 hol bout
  have ne0 : ∀ p, (cellAt H1 p).isSome = true → p ≠ [] := by rintro p h rfl; cases h
  have n0 : ∀ p, (cellAt H1 p).isSome = true → ∀ j r, p ≠ (0, j) :: r := fun p h => by
   obtain ⟨x, hx⟩ := Option.isSome_iff_exists.1 h
   exact not0_of_live H10 hx
  have nr : ∀ p, (cellAt H1 p).isSome = true → ∀ j r, p ≠ (root, j) :: r := by
   rintro p h j r rfl
   simp [cellAt, H1root] at h
  have liveds : ∀ p q, p ∈ ds → (cellAt H1 p).isSome = true → (cellAt H1 q).isSome = true → p <+: q → p = q := by
   intro p q hp hpl hq hpq
   obtain ⟨t, rfl⟩ := hpq
   cases t with
   | nil => simp
   | cons s t =>
    exfalso
    rw [cellAt_append _ _ (ne0 p hpl)] at hq
    obtain ⟨x, hx⟩ := Option.isSome_iff_exists.1 hq
    simp only [Option.bind_eq_some_iff, down] at hx
    obtain ⟨nd, n1, y, n2, n3⟩ := hx
    refine g2.liv p ⟨nd, n1, ?_⟩ p hp (List.prefix_refl p)
    cases nd with
    | sl o z es => cases o <;> first | rfl | cases n2
    | po o cs => cases o <;> first | rfl | cases n2
    | _ => cases n2
  have binfo : ∀ (j : Nat) (p : Path), bks[j]? = some (some p) → p ∈ ds ∧ (cellAt H1 p).isSome = true ∧ ∃ u, us[j]? = some u ∧ shape u = shapeAt st.H p ∧ (shape u).isSome = true ∧ TR w' κ' γ' F.A [(1, j)] u (κ' [(1, j)]) ∧ κ' [(1, j)] = κ p := by
   intro j p hj
   obtain ⟨b1, b2, u, b3, b4⟩ := bat j p hj
   obtain ⟨s1, c, s2, s3⟩ := src j p b1
   have hlt : j < (ownVals ms vs).length := by have := (List.getElem?_eq_some_iff.1 b1).1; omega
   have hy := List.getElem?_eq_getElem hlt
   have hT := hout j u b3
   have e1 : κcall κ1 [(1, j)] = (ownVals ms vs)[j] := hA.val j _ hy
   rw [e1] at hT
   obtain ⟨k1, k2⟩ := rv_head (s3 _ hy) s2 hT b4
   have e2 := hT.val k1
   exact ⟨s1, b2, u, bout j u b3, b4, k1, by rw [e2]; exact hT.monoA hA', by rw [e2, k2]⟩
  have bmem : ∀ p, some p ∈ bks → p ∈ ds ∧ (cellAt H1 p).isSome = true := by
   intro p hp
   obtain ⟨j, hj⟩ := List.getElem?_of_mem hp
   obtain ⟨q1, q2, _⟩ := binfo j p hj
   exact ⟨q1, q2⟩
  have bap : ∀ (j k : Nat) (p p' : Path), j < k → bks[j]? = some (some p) → bks[k]? = some (some p') → ¬ p <+: p' ∧ ¬ p' <+: p := by
   intro j k p p' hjk hj hk
   obtain ⟨q1, q2, _⟩ := binfo j p hj
   obtain ⟨q3, q4, _⟩ := binfo k p' hk
   have hne := bne j k p p' hjk hj hk
   exact ⟨fun h => hne (liveds _ _ q1 q2 q4 h), fun h => hne (liveds _ _ q3 q4 q2 h).symm⟩
  obtain ⟨cells, hcd⟩ : ∃ cells, cells = if (res.flatMap cellsT).any isOwn then res.flatMap cellsT else [] := ⟨_, rfl⟩
  have hcells : ∀ (m : Nat) (c : TV), cells[m]? = some c → (res.flatMap cellsT)[m]? = some c := by
   intro m c h
   rw [hcd] at h
   split at h
   ·exact h
   ·simp at h
  have hcalled := HR.called (κ' := κ') (γ' := γ') (cells := cells) (Lb := lbOf bks us) g1 H10 H1root hr2 hown' hchg
   (fun m c h => (hres.cell m c (hcells m c h)).monoA hA') (fun m c h => by
    rcases lbOf_at _ _ _ _ h with rfl | ⟨p, q1, q2⟩
    ·exact .pure _ _ _ (.junk _)
    ·obtain ⟨_, _, u, e1, _, _, e2, _⟩ := binfo m p q1
     rw [q2] at e1; cases e1; exact e2)
  have hκb : ∀ q, (∀ j r, q ≠ (0, j) :: r) → (∀ j r, q ≠ (root, j) :: r) → κback κ1 κ' root q = κ q := by
   intro q q0 q1
   rw [← g2.kap q (fun j r hh => q0 _ _ hh)]
   cases q with
   | nil => rfl
   | cons s r =>
    have a1 : s.1 ≠ 0 := by intro hh; exact q0 s.2 r (by rw [← hh])
    have a2 : s.1 ≠ root := by intro hh; exact q1 s.2 r (by rw [← hh])
    simp [κback, a1, a2]
  have hcs : ∀ q, (∀ j r, q ≠ (root, j) :: r) → cellAt (setRoot H1 root cells) q = cellAt H1 q := by
   intro q q1
   cases q with
   | nil => rfl
   | cons s r =>
    have a2 : s.1 ≠ root := by intro hh; exact q1 s.2 r (by rw [← hh])
    simp [cellAt, setRoot, a2]
  have hset0 : setRoot H1 root cells 0 = [] := by simp [setRoot, show 0 ≠ root by omega, H10]
  obtain ⟨κ2, γ2, L', p1, p2, p3, p4⟩ := putBack_ok bks us (List.range bks.length) (lbOf bks us) (setRoot H1 root cells) _ _ hcalled hset0 (by omega) (by simp)
   (fun j p c u q1 q2 q3 => by
    obtain ⟨i1, i2, u', i3, i4, i5, i6, i7⟩ := binfo j p q1
    have hlt := (List.getElem?_eq_some_iff.1 q1).1
    rw [List.getElem?_range hlt] at q2
    cases q2
    rw [q3] at i3; cases i3
    refine ⟨lbOf_get _ _ _ p _ q1 q3, ?_, by rw [hcs p (nr p i2)]; exact i2, ?_⟩
    ·rw [hκb p (n0 p i2) (nr p i2), ← i7]
     simp [κback, show 0 ≠ root by omega]
    ·intro pn s nd hp hcn B off arr T ha hb
     have hpn_r : ∀ j r, pn ≠ (root, j) :: r := by rintro j r rfl; exact nr p i2 j (r ++ [s]) (by rw [hp]; rfl)
     have hpn_0 : ∀ j r, pn ≠ (0, j) :: r := by rintro j r rfl; exact n0 p i2 j (r ++ [s]) (by rw [hp]; rfl)
     rw [hcs pn hpn_r] at hcn
     have hpne : pn ≠ [] := by rintro rfl; cases hcn
     obtain ⟨x1, hx1⟩ := Option.isSome_iff_exists.1 i2
     rw [hp, cellAt_snoc _ _ hpne, hcn, Option.bind_some] at hx1
     have hnds : (shape nd).isSome = true := by
      cases nd with
      | sl o z es => cases o <;> first | rfl | cases hx1
      | po o cs => cases o <;> first | rfl | cases hx1
      | _ => cases hx1
     obtain ⟨B1, off1, arr1, T1, z1, z2, z3, z4, z5⟩ := g1.cell (pn := pn) (by rw [cellAt_wr0 _ _ hpn_0]; exact hcn) hx1
     rw [hκb pn hpn_0 hpn_r, ← g2.kap pn (fun j r hh => hpn_0 _ _ hh), z1] at ha
     cases ha
     obtain ⟨_, _, l3⟩ := g2.live pn ⟨nd, hcn, hnds⟩
     simp only [shapeAt, hcn, Option.bind_some] at l3
     have l3' := l3
     rw [l3] at hnds
     cases hnd0 : cellAt st.H pn with
     | none => rw [hnd0] at hnds; cases hnds
     | some nd0 =>
      rw [hnd0, Option.bind_some] at l3'
      have i8 := i5
      rw [i4, hp] at i8
      simp only [shapeAt] at i8
      rw [cellAt_snoc _ _ hpne, hnd0, Option.bind_some] at i8
      cases hk0 : kid nd0 s with
      | none => rw [hk0] at i8; cases i8
      | some u0 =>
       rw [hk0, Option.bind_some] at i8
       obtain ⟨B0, off0, arr0, T0, y1, y2, y3, y4, y5⟩ := h1.cell hnd0 hk0
       rw [← g2.kap pn (fun j r hh => hpn_0 _ _ hh), cellAddr_shape l3'.symm, z1] at y1
       cases y1
       have y6 := y5.val i8
       obtain ⟨arr2, x1', x2, x3⟩ := hchg.keep.cells _ _ _ _ y3
       rw [hb] at x1'
       cases x1'
       rw [x3 _ (by
        rintro ⟨q, hq⟩
        obtain ⟨m', r', hm1, _⟩ := γcall_some hq
        rw [z2] at hm1; cases hm1
        exact hpn_0 _ _ rfl), ← y6, ← hp, hκb p (n0 p i2) (nr p i2)])
   (fun j k p p' hjk hj hk => ⟨(bap j k p p' hjk hj hk).1, by
    have l1 := (List.getElem?_eq_some_iff.1 hj).1
    have l2 := (List.getElem?_eq_some_iff.1 hk).1
    rw [List.getElem?_range l1, List.getElem?_range l2]
    intro hh; cases hh; omega⟩)
  have hHf := p1.drop0 p2
  have hcomm := putBack_setRoot (root := root) cells bks us H1 (fun p hp => nr p (bmem p hp).2)
  have keepq : ∀ q, ((∀ p ∈ ds, ¬ p <+: q) ∨ some q ∈ bks) → (shapeAt st.H q).isSome = true → κ2 q = κ q ∧ shapeAt (putBack (setRoot H1 root cells) bks us) q = shapeAt st.H q := by
   intro q hq hl'
   have q0 := live_notroot h2 hl'
   have q1 := live_notroot hroot hl'
   rcases hq with hq | hq
   ·have hq' : ∀ p, some p ∈ bks → ¬ p <+: q := fun p hp => hq p (bmem p hp).1
    refine ⟨?_, ?_⟩
    ·rw [p3 q (fun p hp => .inl (hq' p hp)) (fun p hp hh => absurd hh (hq' p hp))]
     exact hκb q q0 q1
    ·rw [p4 q hq', shapeAt_setRoot q1]
     exact g2.shp q hq
   ·obtain ⟨j, hj⟩ := List.getElem?_of_mem hq
    obtain ⟨i1, i2, u, i3, i4, i5, i6, i7⟩ := binfo j q hj
    have hpre : ∀ p, some p ∈ bks → p <+: q → q = p := fun p hp hh => (liveds p q (bmem p hp).1 (bmem p hp).2 i2 hh).symm
    refine ⟨?_, ?_⟩
    ·rw [p3 q (fun p hp => by
      by_cases hh : p <+: q
      ·exact .inr (hpre p hp hh)
      ·exact .inl hh) hpre]
     exact hκb q q0 q1
    ·have := putBack_at bks us (setRoot H1 root cells) bap j q u hj i3 (by rw [hcs q q1]; exact i2)
     simp only [shapeAt, this, Option.bind_some]
     exact i4
  have hone : ∀ (r0 m : Nat), r0 ≠ 0 → (∀ p, some p ∈ bks → p <+: [(r0, m)] → [(r0, m)] = p) := by
   intro r0 m _ p hp hh
   obtain ⟨t, ht⟩ := hh
   cases p with
   | nil => exact absurd rfl (ne0 _ (bmem _ hp).2)
   | cons s r =>
    simp at ht
    rw [ht.1, ht.2.1]
  have hk2 : ∀ (r0 m : Nat), r0 ≠ 0 → κ2 [(r0, m)] = κback κ1 κ' root [(r0, m)] := by
   intro r0 m h0
   refine p3 _ (fun p hp => ?_) (hone r0 m h0)
   by_cases hh : p <+: [(r0, m)]
   ·exact .inr (hone r0 m h0 p hp hh)
   ·exact .inl hh
  have hk1 : ∀ b, κ2 [(1, b)] = F.k1 b := by
   intro b
   rw [hk2 1 b (by omega), hκb _ (by simp) (by intro j r hh; simp at hh; omega)]
   exact h6 b
  have hKeep : Keep (fun b o => ¬ ∃ q, γcall γ1 b o = some q) w w' := hchg.keep
  have hAK : ∀ b o, F.A b o → ¬ ∃ q, γcall γ1 b o = some q := by
   rintro b o ha ⟨q, hq⟩
   obtain ⟨m', r, hm1, _⟩ := γcall_some hq
   exact g1.notA hm1 ha
  have hEH : E.H = putBack (setRoot H1 root cells) bks us := by
   rw [hcomm, ← t5, hcd]
   split
   ·rfl
   ·funext y
    simp only [setRoot]
    split
    ·rename_i hy; subst hy; exact putBack_nil _ _ _ H1root
    ·rfl
  have hEd : E.dead = if ds = [] then none else some (fun q => under ds q && !(bks.any (· == some q))) := by
   rw [← t5]; split <;> rfl
  have hEv : E.v = if (res.flatMap cellsT).any isOwn then resT (refTu root 0 res) else resT res := by
   rw [← t5]; split <;> rfl
  have hEn : E.norg = [] := by rw [← t5]; split <;> rfl
  have hdq : ∀ q, deadB E.dead q = false → (∀ p ∈ ds, ¬ p <+: q) ∨ some q ∈ bks := by
   intro q hq
   rw [hEd] at hq
   by_cases hds : ds = []
   ·subst hds; exact .inl (by simp)
   ·simp only [hds, if_false, deadB, Bool.and_eq_false_iff, Bool.not_eq_false'] at hq
    rcases hq with hq | hq
    ·exact .inl (under_false hq)
    ·obtain ⟨x, hx1, hx2⟩ := List.any_eq_true.1 hq
     have : x = some q := by simpa using hx2
     subst this
     exact .inr hx1
  refine Rel.put (κ' := κ2) (γ' := γ2) (by rw [hEH]; exact hHf) (by rw [hEH]; exact p2) h3 hd h5 hk1 (fun q m hq hl => ?_) (fun _ => ?_) (fun k => ?_)
  ·obtain ⟨s, r, rfl, hcase⟩ := orgPut_some hq hl
   rcases hcase with ⟨hn, _, f, _, hnf⟩ | ⟨hn, hdd, hq⟩
   ·rw [hEn] at hnf; simp at hnf
   ·have hdd' := hdq _ hdd
    rw [hEH] at hl
    by_cases hrs : s.1 = root
    ·
     exfalso
     obtain ⟨s1, s2⟩ := s
     simp only at hrs; subst hrs
     by_cases hown : (res.flatMap cellsT).any isOwn = true
     ·exact hn (by rw [← t5, if_pos hown])
     ·obtain ⟨x, hx, _⟩ := hl
      rw [hcomm] at hx
      have hce : cells = [] := by rw [hcd, if_neg hown]
      simp [cellAt, setRoot, hce] at hx
    ·have hnr : ∀ j t, s :: r ≠ (root, j) :: t := by rintro j t hh; cases hh; exact hrs rfl
     have hl0 : (shapeAt st.H (s :: r)).isSome = true := by
      rcases hdd' with hd1 | hd1
      ·have hb1 : ∀ p, some p ∈ bks → ¬ p <+: s :: r := fun p hp => hd1 p (bmem p hp).1
       rw [live_iff, p4 _ hb1, shapeAt_setRoot hnr, g2.shp _ hd1] at hl
       exact hl
      ·obtain ⟨j, hj⟩ := List.getElem?_of_mem hd1
       obtain ⟨_, _, u, _, i4, i5, _⟩ := binfo j _ hj
       rw [← i4]; exact i5
     rw [(keepq _ hdd' hl0).1]
     exact h7 _ _ hq ((live_iff _ _).2 hl0)
  ·rw [hEH, hEv]
   split
   ·rename_i hown
    have hcd' : cells = res.flatMap cellsT := by rw [hcd, if_pos hown]
    obtain ⟨f1, f2⟩ := refTu_rv (w := w') (κ := κ2) (H := putBack (setRoot H1 root cells) bks us) (A := F.A) root res rs 0 hres.len hres.ag (fun m c y hm hy => by
     rw [Nat.zero_add]
     have hc1 : cellAt (putBack (setRoot H1 root cells) bks us) [(root, m)] = some c := by
      rw [hcomm, cellAt_root]
      simp only [setRoot, if_true]
      rw [hcd']; exact hm
     have hT := hHf.root (root, m) c (by rw [← cellAt_root]; exact hc1)
     have e1 : κ2 [(root, m)] = y := by
      rw [hk2 root m (by omega)]
      simp only [κback, if_true]
      exact hres.val m y hy
     rw [e1] at hT
     exact toRef_rv hT hc1)
    exact resT_rv f1 f2
   ·rename_i hown
    refine resT_rv hres.len (resCells_rv res rs hres.len hres.ag fun m c y hm hy => ?_)
    have hT := hres.cell m c hm
    rw [hres.val m y hy] at hT
    have hns : (shape c).isSome = false := by
     cases hh : (shape c).isSome with
     | false => rfl
     | true => exact absurd (List.any_eq_true.2 ⟨c, List.mem_of_getElem? hm, hh⟩) hown
    exact .pure _ _ ((hT.monoA hA').pure_of hns)
  ·rw [hEd, hEH]
   by_cases hds : ds = []
   ·subst hds
    simp only [if_true, deadT]
    exact (h4 k).mono (fun q hl' => keepq q (.inl (by simp)) hl') hKeep hAK
   ·simp only [hds, if_false, deadT]
    refine (h4 k).kill _ (fun q hq hl' => keepq q (hdq q ?_) hl') hKeep hAK
    rw [hEd, if_neg hds]; exact hq
end
end Go.Proofs.YtmedelmfkciblaaT

