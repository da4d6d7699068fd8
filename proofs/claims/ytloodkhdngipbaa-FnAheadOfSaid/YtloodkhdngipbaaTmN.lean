/- TM, part N: a function's promise out of its body. -/
import Derived.Test.YtloodkhdngipbaaTmM
namespace Go.Proofs.YtloodkhdngipbaaT
set_option linter.unusedVariables false
set_option linter.unusedSimpArgs false
open Go

section
variable {P : Program} {F : Fr} {st : St} {w w' w0 : World} {S0 : Nat → Nat → Prop} {κ κ' : Path → Value} {γ γ' : Nat → Nat → Option Path} {H H1 : Hp} {A K : Nat → Nat → Prop} {o : Oper} {E : Eff} {root : Nat}

theorem RV.noheap {u : TV} {v : Value} (h : RV w κ (fun _ => []) A u v) : RV w κ' H A u v := by
  refine h.mono (K := fun _ _ => True) (fun q hq => ?_) (Keep.refl _ w) (fun _ _ _ => trivial)
  cases q with
  | nil => simp [shapeAt, cellAt] at hq
  | cons s r => simp [shapeAt, cellAt] at hq

theorem isAg_cells {u : TV} {v : Value} (h1 : isAg u = isAgV v) (h2 : isAg u = false) : cellsT u = [u] ∧ cellsV v = [v] := by
  refine ⟨?_, ?_⟩
  · cases u <;> first | rfl | cases h2
  · rw [h2] at h1
    cases v <;> first | rfl | cases h1

theorem initT_rv : ∀ (ms : List Mode) (args : List TV) (vs : List Value) (b : Nat), args.length = vs.length → ms.length = args.length →
    (∀ (j : Nat) (u : TV) (v : Value), ms[j]? ≠ some .ro → args[j]? = some u → vs[j]? = some v → isAg u = isAgV v ∧ (cellsT u).length = (cellsV v).length) →
    (∀ (j : Nat) (u : TV) (v : Value), ms[j]? = some .ro → args[j]? = some u → vs[j]? = some v → RV w κ (fun _ => []) A u v) →
    (∀ (m : Nat) (c : TV), (ownCells ms args)[m]? = some c → TR w κ γ A [(1, b + m)] c (κ [(1, b + m)]) ∧ cellAt H [(1, b + m)] = some c) →
    (∀ (m : Nat) (v : Value), (ownVals ms vs)[m]? = some v → κ [(1, b + m)] = v) →
    ∀ (j : Nat) (v : Value), vs[j]? = some v → ∃ u, (initT b ms args)[j]? = some u ∧ RV w κ H A u v
  | [], [], [], _, _, _, _, _, _, _, j, v, hj => by simp at hj
  | m :: ms, u :: us, v :: vs, b, hl, hm, hag, hro, hown, hval, j, x, hj => by
    have own : m ≠ .ro → initT b (m :: ms) (u :: us) = refArg b u :: initT (b + (cellsT u).length) ms us ∧
        ownCells (m :: ms) (u :: us) = cellsT u ++ ownCells ms us ∧ ownVals (m :: ms) (v :: vs) = cellsV v ++ ownVals ms vs := by
      intro h; cases m <;> first | exact absurd rfl h | exact ⟨rfl, rfl, rfl⟩
    by_cases hmr : m = .ro
    · subst hmr
      cases j with
      | zero =>
        simp at hj; subst hj
        exact ⟨u, rfl, (hro 0 u v rfl rfl rfl).noheap⟩
      | succ j =>
        simp only [initT, List.getElem?_cons_succ]
        exact initT_rv ms us vs b (by simpa using hl) (by simpa using hm) (fun j u v hz h1 h2 => hag (j + 1) u v (by simpa using hz) (by simpa using h1) (by simpa using h2)) (fun j u v h0 h1 h2 => hro (j + 1) u v (by simpa using h0) (by simpa using h1) (by simpa using h2)) hown hval j x (by simpa using hj)
    · obtain ⟨e1, e2, e3⟩ := own hmr
      rw [e2] at hown; rw [e3] at hval; rw [e1]
      obtain ⟨g1, g2⟩ := hag 0 u v (by simpa using hmr) rfl rfl
      have cell : ∀ (k : Nat) (c : TV) (y : Value), (cellsT u)[k]? = some c → (cellsV v)[k]? = some y → RV w κ H A (toRef [(1, b + k)] c) y := by
        intro k c y hc hy
        have hlt := (List.getElem?_eq_some_iff.1 hc).1
        have hlt2 := (List.getElem?_eq_some_iff.1 hy).1
        obtain ⟨t1, t2⟩ := hown k c (by rw [List.getElem?_append_left hlt]; exact hc)
        have t3 := hval k y (by rw [List.getElem?_append_left hlt2]; exact hy)
        rw [t3] at t1
        exact toRef_rv t1 t2
      cases j with
      | zero =>
        simp at hj; subst hj
        refine ⟨_, rfl, ?_⟩
        cases hu : isAg u with
        | true =>
          obtain ⟨cs, rfl⟩ : ∃ cs, u = .ag cs := by cases u <;> first | exact ⟨_, rfl⟩ | cases hu
          rw [hu] at g1
          obtain ⟨vs', rfl⟩ : ∃ cs, v = .agg cs := by cases v <;> first | exact ⟨_, rfl⟩ | cases g1
          refine .ag _ _ (by rw [refsFrom_len]; simpa [cellsT, cellsV] using g2) fun k c hc => ?_
          rw [refsFrom_get] at hc
          cases hk : cs[k]? with
          | none => simp [hk] at hc
          | some c0 =>
            simp only [hk, Option.map_some, Option.some.injEq] at hc
            subst hc
            have hlt := (List.getElem?_eq_some_iff.1 hk).1
            have hlt2 : k < vs'.size := by simp [cellsT, cellsV] at g2; omega
            have := cell k c0 vs'[k] hk (by simp [cellsV, hlt2])
            simpa [hlt2] using this
        | false =>
          obtain ⟨q1, q2⟩ := isAg_cells g1 hu
          have := cell 0 u v (by rw [q1]; rfl) (by rw [q2]; rfl)
          have e2 : refArg b u = toRef [(1, b)] u := by cases u <;> first | rfl | cases hu
          rw [e2]; exact this
      | succ j =>
        simp only [List.getElem?_cons_succ]
        refine initT_rv ms us vs _ (by simpa using hl) (by simpa using hm) (fun j u v hz h1 h2 => hag (j + 1) u v (by simpa using hz) (by simpa using h1) (by simpa using h2)) (fun j u v h0 h1 h2 => hro (j + 1) u v (by simpa using h0) (by simpa using h1) (by simpa using h2)) (fun m c hc => ?_) (fun m y hy => ?_) j x (by simpa using hj)
        · have := hown ((cellsT u).length + m) c (by rw [List.getElem?_append_right (by omega)]; simpa using hc)
          rw [Nat.add_assoc]; exact this
        · have := hval ((cellsT u).length + m) y (by rw [g2, List.getElem?_append_right (by omega)]; simpa using hy)
          rw [Nat.add_assoc]; exact this
  | [], _ :: _, _, _, _, hm, _, _, _, _, _, _, _ => by simp at hm
  | _ :: _, [], _, _, _, hm, _, _, _, _, _, _, _ => by simp at hm
  | [], [], _ :: _, _, hl, _, _, _, _, _, _, _, _ => by simp at hl
  | _ :: _, _ :: _, [], _, hl, _, _, _, _, _, _, _, _ => by simp at hl

theorem initT_len : ∀ (ms : List Mode) (args : List TV) (b : Nat), ms.length = args.length → (initT b ms args).length = args.length
  | [], [], _, _ => rfl
  | m :: ms, u :: us, b, h => by cases m <;> simp [initT, initT_len ms us _ (by simpa using h)]
  | [], _ :: _, _, h => by simp at h
  | _ :: _, [], _, h => by simp at h

/-! ### what holds nothing that was only read -/
theorem noROL_eq (cs : List TV) : noROL cs = cs.all noRO := by
  induction cs with
  | nil => rfl
  | cons c cs ih => simp [noROL, ih]
theorem noROLL_eq (es : List (List TV)) : noROLL es = es.all (·.all noRO) := by
  induction es with
  | nil => rfl
  | cons c cs ih => simp [noROLL, ih, noROL_eq]

theorem RR.noro {u : TV} {v : Value} (h : RR w A u v) (hn : noRO u = true) : RR w K u v := by
  induction h with
  | b x => exact .b x
  | i k n => exact .i k n
  | f x => exact .f x
  | s x => exact .s x
  | np => exact .np
  | sl0 z => exact .sl0 z
  | sle z c a => exact .sle z c a
  | junk v => exact .junk v
  | pin v h => exact .pin v h
  | fn g caps capv hl hc ih =>
    simp only [noRO, noROL_eq, List.all_eq_true] at hn
    exact .fn g caps capv hl fun j u hu => ih j u hu (hn u (List.mem_of_getElem? hu))
  | sl z n c B o es arr T fz hl hn' hz hb hs ha hc ih =>
    simp only [noRO, Bool.false_or, Bool.and_eq_true, List.isEmpty_iff] at hn
    obtain ⟨rfl, _⟩ := hn
    have : n = 0 := by simpa using hl.symm
    subst this
    exact .sl z 0 c B o [] arr T fz rfl (Nat.zero_le _) (by simp) hb hs (by simp) (by simp)
  | po B o cs arr T fz hb hs ha hc ih => simp [noRO] at hn

theorem TR.noro {p : Path} {u : TV} {v : Value} (h : TR w κ γ A p u v) (hn : noRO u = true) : TR w κ γ K p u v := by
  induction h with
  | pure p u v h => exact .pure p u v (h.noro hn)
  | sl0 p z hk => exact .sl0 p z hk
  | sl p z n c B o es arr T hk hl hn' hz hb hs hg hc ih =>
    simp only [noRO, Bool.true_or, Bool.true_and, noROLL_eq, List.all_eq_true] at hn
    exact .sl p z n c B o es arr T hk hl hn' hz hb hs hg fun i f e u he hf => ih i f e u he hf (hn e (List.mem_of_getElem? he) u (List.mem_of_getElem? hf))
  | po p B o cs arr T hk hb hs hg hc ih =>
    simp only [noRO, Bool.true_and, noROL_eq, List.all_eq_true] at hn
    exact .po p B o cs arr T hk hb hs hg fun f u hf => ih f u hf (hn u (List.mem_of_getElem? hf))

theorem rv_agv {x : TV} {v : Value} (h : RV w κ H A x v) (hne : x ≠ .junk) : isAg x = isAgV v := by
  cases h with
  | pure u v h => cases h with
    | junk => exact absurd rfl hne
    | pin v h => show false = isAgV v; cases v <;> first | rfl | cases h
    | _ => rfl
  | _ => rfl

def resVal (tmps : Array Value) : ResultVar → Sem Value
  | .tmp t => Pure.pure (tmps.getD t undef)
  | .cell a t => do loadVar t (← asAddr (tmps.getD a undef))

theorem loadT_rv {t : TypeId} {g : Bool} {n : Nat} {u x : TV} {v : Value} (hh : HR w0 S0 A w κ γ H) (hv : RV w κ H A u v) (hx : loadT H g n u = some x) (hg : tyAgg P t = some g) (hn : tySize P t = some n) (h1n : g = false → n = 1) :
    ∃ y, (Instr.loadAt t v).run P w = .ok y w ∧ RV w κ H A x y ∧ ∃ a, v = .pointer (some a) := by
  unfold loadT at hx
  split at hx
  case h_2 => cases hx
  rename_i p i f
  simp only [Option.bind_eq_some_iff] at hx
  obtain ⟨cs, hr, hx⟩ := hx
  split at hx
  case isFalse => cases hx
  rename_i hlen
  obtain ⟨B, off, arr, T, rfl, h2, h3, h4, _⟩ := pt_read hh hv hr hlen
  have cell : ∀ (j : Nat) (u : TV), j < n → cs[f + j]? = some u → RV w κ H A (toRef (p ++ [(i, f + j)]) u) ((arr[off + j]?).getD undef) := fun j u hj hu => toRef_rv (h4 j u hj hu) (row_cell hr hu)
  have hl := run_loadAt (P := P) (w := w) hg hn h2 h3 h1n
  cases g with
  | true =>
    simp only [if_true, Option.some.injEq] at hx hl
    subst hx
    refine ⟨_, hl, ?_, _, rfl⟩
    refine .ag _ _ (by rw [refsFrom_len]; simp; omega) fun j u hu => ?_
    rw [refsFrom_get] at hu
    cases hj : ((cs.drop f).take n)[j]? with
    | none => simp [hj] at hu
    | some c =>
      simp only [hj, Option.map_some, Option.some.injEq] at hu
      subst hu
      rw [List.getElem?_take] at hj
      split at hj
      case isFalse => cases hj
      rename_i hjn
      rw [List.getElem?_drop] at hj
      have := cell j c hjn hj
      have e : (arr.extract off (off + n))[j]? = arr[off + j]? := by
        rw [Array.getElem?_extract]; simp; omega
      rwa [e]
  | false =>
    obtain rfl := h1n rfl
    simp only [Bool.false_eq_true, if_false, Option.some.injEq] at hx hl
    obtain ⟨c, hc⟩ : ∃ c, cs[f]? = some c := ⟨cs[f], List.getElem?_eq_getElem (by omega)⟩
    have e1 : (cs.drop f).take 1 = [c] := by
      rw [List.take_one, List.head?_drop, hc]; rfl
    rw [e1] at hx
    simp only [refsFrom, List.headD_cons] at hx
    subst hx
    exact ⟨_, hl, by simpa using cell 0 c (by omega) (by simpa using hc), _, rfl⟩

theorem run_results {fn : Func} {rt : List TRes} {a : Act} {tvs : List TV} (h : resTmps P fn.results.toList = some rt) (hh : HR w0 S0 A w κ γ st.H) (ht : ∀ k, RV w κ st.H A (st.t k) ((a.tmps[k]?).getD undef))
    (htv : optAll (rt.map (resTV st)) = some tvs) :
    ∃ rs, (results fn a.tmps).run P w = .ok (resV rs) w ∧ tvs.length = rs.length ∧ ∀ (j : Nat) (u : TV) (v : Value), tvs[j]? = some u → rs[j]? = some v → RV w κ st.H A u v := by
  have key : ∀ (l : List ResultVar) (rt : List TRes) (tvs : List TV), resTmps P l = some rt → optAll (rt.map (resTV st)) = some tvs → ∃ rs, (l.mapM (m := Sem) (resVal a.tmps)).run P w = .ok rs w ∧ tvs.length = rs.length ∧
      ∀ (j : Nat) (u : TV) (v : Value), tvs[j]? = some u → rs[j]? = some v → RV w κ st.H A u v := by
    intro l
    induction l with
    | nil =>
      intro rt tvs h h'
      simp only [resTmps, Option.some.injEq] at h; subst h
      simp only [List.map_nil, optAll, Option.some.injEq] at h'; subst h'
      exact ⟨[], rfl, rfl, by simp⟩
    | cons r l ih =>
      intro rt tvs h h'
      have step : ∀ (tr : TRes) (ts : List TRes), resTmps P l = some ts → rt = tr :: ts → (∀ x, resTV st tr = some x → ∃ y, (resVal a.tmps r).run P w = .ok y w ∧ RV w κ st.H A x y) →
          ∃ rs, ((r :: l).mapM (m := Sem) (resVal a.tmps)).run P w = .ok rs w ∧ tvs.length = rs.length ∧ ∀ (j : Nat) (u : TV) (v : Value), tvs[j]? = some u → rs[j]? = some v → RV w κ st.H A u v := by
        rintro tr ts h1 rfl hone
        simp only [List.map_cons, optAll, Option.bind_eq_some_iff, Option.some.injEq] at h'
        obtain ⟨x, hx, xs, hxs, rfl⟩ := h'
        obtain ⟨y, hy1, hy2⟩ := hone x hx
        obtain ⟨rs, g1, g2, g3⟩ := ih ts xs h1 hxs
        refine ⟨y :: rs, ?_, by simp [g2], fun j u v hu hv => ?_⟩
        · simp only [List.mapM_cons, Sem.run_bind, hy1, Result.andThen_ok, g1, Sem.run_pure]
        · cases j with
          | zero => simp at hu hv; subst hu; subst hv; exact hy2
          | succ j => exact g3 j u v (by simpa using hu) (by simpa using hv)
      cases r with
      | tmp t =>
        simp only [resTmps, Option.bind_eq_some_iff, Option.some.injEq] at h
        obtain ⟨ts, h1, rfl⟩ := h
        refine step _ ts h1 rfl fun x hx => ?_
        simp only [resTV, Option.some.injEq] at hx; subst hx
        exact ⟨_, rfl, by simpa using ht t⟩
      | cell c t =>
        simp only [resTmps, Option.bind_eq_some_iff] at h
        obtain ⟨g, hg, n, hn, ts, h1, h⟩ := h
        split at h
        case isFalse => cases h
        rename_i hgn
        simp only [Option.some.injEq] at h; subst h
        refine step _ ts h1 rfl fun x hx => ?_
        simp only [resTV] at hx
        obtain ⟨y, y1, y2, ad, y3⟩ := loadT_rv (P := P) (t := t) hh (ht c) hx hg hn (by rintro rfl; simpa using hgn)
        refine ⟨y, ?_, y2⟩
        have e : a.tmps.getD c undef = .pointer (some ad) := by rw [← y3]; simp
        rw [y3] at y1
        simp only [Instr.loadAt, Instr.sureAddr, Sem.run_bind, Sem.run_pure, Result.andThen_ok] at y1
        simp only [resVal, e, asAddr, Sem.run_bind, Sem.run_pure, Result.andThen_ok, y1]
  obtain ⟨rs, h1, h2, h3⟩ := key _ _ _ h htv
  refine ⟨rs, ?_, h2, h3⟩
  have e : results fn a.tmps = (fn.results.mapM (m := Sem) (resVal a.tmps)).bind fun vs => Sem.pure (if h : vs.size = 1 then vs[0] else .tuple vs) := by
    unfold results
    show Sem.bind _ _ = Sem.bind _ _
    congr 1
  rw [e, Array.mapM_eq_mapM_toList]
  show ((List.toArray <$> List.mapM (resVal a.tmps) fn.results.toList) >>= fun vs => (Pure.pure (if h : vs.size = 1 then vs[0] else .tuple vs) : Sem Value)).run P w = _
  simp only [Sem.run_bind, Sem.run_map, h1, Result.andThen_ok, Sem.run_pure]
  congr 1
  cases rs with
  | nil => rfl
  | cons x xs =>
    cases xs with
    | nil => rfl
    | cons y ys => simp [resV]

theorem flat_rv : ∀ (tvs : List TV) (rs : List Value), tvs.length = rs.length → (∀ (j : Nat) (u : TV) (v : Value), tvs[j]? = some u → rs[j]? = some v → RV w κ H A u v) → (∀ c ∈ tvs.flatMap cellsT, c ≠ .junk ∧ (∀ vs, c ≠ .tu vs) ∧ isAg c = false) →
    (tvs.flatMap cellsT).length = (rs.flatMap cellsV).length ∧ (∀ (j : Nat) (c : TV) (v : Value), (tvs.flatMap cellsT)[j]? = some c → (rs.flatMap cellsV)[j]? = some v → RV w κ H A c v) ∧
    ∀ (j : Nat) (u : TV) (v : Value), tvs[j]? = some u → rs[j]? = some v → isAg u = isAgV v ∧ (cellsT u).length = (cellsV v).length
  | [], [], _, _, _ => by simp
  | [], _ :: _, h, _, _ => by simp at h
  | _ :: _, [], h, _, _ => by simp at h
  | x :: tvs, y :: rs, hl, ht, hf => by
    obtain ⟨i1, i2, i3⟩ := flat_rv tvs rs (by simpa using hl) (fun j u v hu hv => ht (j + 1) u v (by simpa using hu) (by simpa using hv)) (fun c hc => hf c (by simp only [List.flatMap_cons]; exact List.mem_append_right _ hc))
    have hk : ∀ c ∈ cellsT x, c ≠ .junk ∧ (∀ vs, c ≠ .tu vs) ∧ isAg c = false := fun c hc => hf c (by simp only [List.flatMap_cons]; exact List.mem_append_left _ hc)
    have hxy := ht 0 x y rfl rfl
    have hnj : x ≠ .junk := by rintro rfl; exact (hk .junk (by simp [cellsT])).1 rfl
    have hn : isAg x = true ∨ ∀ vs, x ≠ .tu vs := by
      by_cases hg : isAg x = true
      · exact .inl hg
      · refine .inr fun vs hh => ?_
        exact (hk (.tu vs) (by rw [hh]; simp [cellsT])).2.1 vs rfl
    obtain ⟨l1, l2⟩ := rv_cells hxy (fun c hc => (hk c hc).1) hn
    refine ⟨by simp only [List.flatMap_cons, List.length_append, l1, i1], fun j c v hj hv => ?_, fun j u v hu hv => ?_⟩
    · simp only [List.flatMap_cons] at hj hv
      rcases Nat.lt_or_ge j (cellsT x).length with h | h
      · rw [List.getElem?_append_left h] at hj
        rw [List.getElem?_append_left (by omega)] at hv
        exact l2 j c v hj hv
      · rw [List.getElem?_append_right h] at hj
        rw [List.getElem?_append_right (by omega), ← l1] at hv
        exact i2 _ c v hj hv
    · cases j with
      | zero => simp at hu hv; subst hu; subst hv; exact ⟨rv_agv hxy hnj, l1⟩
      | succ j => exact i3 j u v (by simpa using hu) (by simpa using hv)

theorem TR.val {p : Path} {u : TV} {v : Value} (h : TR w κ γ A p u v) (hs : (shape u).isSome = true) : κ p = v := by
  cases h with
  | pure p u v h => rw [h.noshape] at hs; cases hs
  | sl0 p z hk => exact hk
  | sl p z n c B o es arr T hk => exact hk
  | po p B o cs arr T hk => exact hk

theorem outs_noRO {outs : List (Option TV)} (h : outsNoRO outs = true) {m : Nat} {u : TV} (hu : outs[m]? = some (some u)) : noRO u = true :=
  List.all_eq_true.1 h (some u) (List.mem_of_getElem? hu)

theorem backs_at : ∀ (gq : List (Option Path)) (ls : List TV) (os : List (Option TV)) (m0 : Nat), backs st m0 gq ls os → gq.length = os.length ∧ ls.length = os.length ∧
    ∀ (m : Nat) (u : TV), os[m]? = some (some u) → ls[m]? = some u ∧ (shape u).isSome = true ∧ ∃ q, gq[m]? = some (some q) ∧ (q = [(1, m0 + m)] ∨ st.org q = some (m0 + m))
  | [], [], [], m0, _ => by simp
  | some q :: gq, l :: ls, some u :: os, m0, h => by
    obtain ⟨h1, h2, h3, h4⟩ := h
    obtain ⟨g1, g2, g3⟩ := backs_at gq ls os (m0 + 1) h4
    refine ⟨by simp [g1], by simp [g2], fun m x hm => ?_⟩
    cases m with
    | zero =>
      simp only [List.getElem?_cons_zero, Option.some.injEq] at hm; subst hm
      exact ⟨by simp [h1], h2, q, rfl, h3⟩
    | succ m =>
      have := g3 m x (by simpa using hm)
      rw [show m0 + 1 + m = m0 + (m + 1) by omega] at this
      simpa using this
  | none :: gq, l :: ls, none :: os, m0, h => by
    obtain ⟨g1, g2, g3⟩ := backs_at gq ls os (m0 + 1) h
    refine ⟨by simp [g1], by simp [g2], fun m x hm => ?_⟩
    cases m with
    | zero => simp at hm
    | succ m =>
      have := g3 m x (by simpa using hm)
      rw [show m0 + 1 + m = m0 + (m + 1) by omega] at this
      simpa using this
  | [], _ :: _, _, _, h => by cases h
  | [], [], _ :: _, _, h => by cases h
  | some _ :: _, [], _, _, h => by cases h
  | none :: _, [], _, _, h => by cases h
  | some _ :: _, _ :: _, [], _, h => by cases h
  | none :: _, _ :: _, [], _, h => by cases h
  | some _ :: _, _ :: _, none :: _, _, h => by cases h
  | none :: _, _ :: _, some _ :: _, _, h => by cases h

/-- The places behind the end: results at root 0, what is handed back at root 1. -/
def κend (κ : Path → Value) (K : Nat) : Path → Value
  | s :: r => if s.1 = 1 then κ ((0, K + s.2) :: r) else κ (s :: r)
  | [] => κ []
def γend (γ : Nat → Nat → Option Path) (K : Nat) (b o : Nat) : Option Path :=
  match γ b o with
  | some (s :: r) => if s.1 = 0 then (if s.2 < K then some (s :: r) else some ((1, s.2 - K) :: r)) else none
  | _ => none

theorem contract_of (hall : AllGood P) (hdr : DrawsGood P) {al : Bool} {g : FuncId} {fn : Func} {c : Code} {tc : TCode} {ms : List Mode} {args res : List TV} {outs : List (Option TV)} (gq : List (Option Path)) {rt : List TRes}
    (hf : P.funcs[g]? = some fn) (hb : fn.body = some c) (hc : compCode P fn.ntmps c = some tc) (hr : resTmps P fn.results.toList = some rt) (hn : args.length ≤ fn.ntmps)
    (hT : ms.length = args.length → twp P tc (endW al res outs gq rt) (initSt ms args)) : Contract P al g ms args res outs := by
  intro w vs κ γ A hA hg hAA
  refine calls_of_wp hf hb ?_
  let F : Fr := ⟨w, fun b o => ∃ q, γ b o = some q, A, fn.ntmps, fun b => κ [(1, b)]⟩
  have hcellH : ∀ (m : Nat) (c : TV), (ownCells ms args)[m]? = some c → cellAt (initSt ms args).H [(1, m)] = some c := by
    intro m c hc; rw [cellAt_root]; simpa [initSt] using hc
  have hR : Rel F (initSt ms args) { tmps := vs.toArray ++ Array.replicate (fn.ntmps - vs.toArray.size) undef, defers := [] } w := by
    refine ⟨κ, γ, ⟨?_, fun b o q hb => ⟨hg b o q hb, .inl ⟨q, hb⟩⟩, fun b o ha => ⟨(hAA b o ha).1, by rintro ⟨q, hq⟩; rw [(hAA b o ha).2] at hq; cases hq⟩, .refl _ w⟩, by simp [initSt], ?_, ?_, rfl, fun _ => rfl, fun q m hq _ => by cases hq⟩
    · rintro ⟨i, m⟩ u hu
      simp only [initSt] at hu
      split at hu
      · rename_i hi; obtain rfl : i = 1 := hi; exact hA.own m u hu
      · simp at hu
    · have := hA.len
      show (vs.toArray ++ Array.replicate (fn.ntmps - vs.toArray.size) undef).size = fn.ntmps
      simp; omega
    · intro k
      rcases Nat.lt_or_ge k vs.length with hk | hk
      · obtain ⟨u, h1, h2⟩ := initT_rv (H := (initSt ms args).H) ms args vs 0 hA.len hA.lenm hA.ag hA.ro (fun m c hc => ⟨by simpa using hA.own m c hc, by simpa using hcellH m c hc⟩) (fun m v hv => by simpa using hA.val m v hv) k vs[k] (List.getElem?_eq_getElem hk)
        have e1 : ((vs.toArray ++ Array.replicate (fn.ntmps - vs.toArray.size) undef)[k]?).getD undef = vs[k] := by
          rw [Array.getElem?_append_left (by simpa using hk)]; simp [hk]
        rw [e1]
        simpa [initSt, h1] using h2
      · have : (initT 0 ms args)[k]? = none := by
          rw [List.getElem?_eq_none_iff, initT_len _ _ _ hA.lenm, hA.len]; exact hk
        simp only [initSt, this, Option.getD_none]
        exact .pure _ _ (.junk _)
  refine code_ok hall hdr (F := F) rfl c tc _ _ w _ _ hc hR (hT hA.lenm) fun e st' a' w' hR' hend => ?_
  have fin : (∃ tvs us H1 ds ls H2 ds2, optAll (rt.map (resTV st')) = some tvs ∧ takeL (tvs.flatMap cellsT) st'.H = some (us, H1, ds) ∧ us = res.flatMap cellsT ∧
      tvs.map isAg = res.map isAg ∧ tvs.map (fun u => (cellsT u).length) = res.map (fun u => (cellsT u).length) ∧
      takeL (gq.map (ghostRef H1)) H1 = some (ls, H2, ds2) ∧ backs st' 0 gq ls outs ∧ (al = false → us.all noRO = true ∧ outsNoRO outs = true)) → a'.defers = [] ∧ ∃ v, (results fn a'.tmps).run P w' = .ok v w' ∧ (∃ rs κ' γ', Ending.returned v = .returned (resV rs) ∧ ResR w' κ' γ' (fun b o => al = true ∧ A b o) res rs ∧
      (∀ (m : Nat) (u : TV), outs[m]? = some (some u) → TR w' κ' γ' (fun b o => al = true ∧ A b o) [(1, m)] u (κ [(1, m)])) ∧
      (∀ b o q, γ' b o = some q → b < w'.heap.size ∧ ((∃ q', γ b o = some q') ∨ w.heap.size ≤ b)) ∧
      Chg (fun b o => ∃ q, γ b o = some q) w w') := by
    rintro ⟨tvs, us, H1, ds, ls, H2, ds2, htv, ht, hus, hag, hln, ht2, hbk, hal⟩
    obtain ⟨κ1, γ1, r1, r2, r3, r4, r5, r6, r7⟩ := hR'
    obtain ⟨rs, s1, s2, s3⟩ := run_results (P := P) hr r1 r4 htv
    refine ⟨r5, _, s1, rs, ?_⟩
    obtain ⟨f1, f2, f3⟩ := flat_rv tvs rs s2 s3 (takeL_fit ht)
    have hH : HR F.w0 F.S0 F.A w' κ1 γ1 (wr0 st'.H []) := by rw [wr0_self r2]; exact r1
    obtain ⟨κ2, γ2, k1, k2, k3, k4, k5, k6, k7, k8⟩ := takeL_ok _ _ [] us st'.H H1 κ1 γ1 ds hH r2 f1 (fun j c v hc hv => (f2 j c v hc hv).rs) ht
    simp only [List.nil_append, List.length_nil, Nat.zero_add] at k1 k4
    -- what is handed back, taken
    obtain ⟨b1, b2, b3⟩ := backs_at _ _ _ _ hbk
    let vals : List Value := gq.map fun | none => .pointer none | some q => κ2 q
    have hgr : ∀ (j : Nat) (c : TV) (v : Value), (gq.map (ghostRef H1))[j]? = some c → vals[j]? = some v → Rs w' κ2 H1 F.A c v := by
      intro j c v hc hv
      simp only [vals, List.getElem?_map] at hc hv
      cases hj : gq[j]? with
      | none => simp [hj] at hc
      | some x =>
        simp only [hj, Option.map_some, Option.some.injEq] at hc hv
        cases x with
        | none =>
          simp only [ghostRef] at hc hv
          subst hc; subst hv
          exact (RV.pure _ _ .np).rs
        | some q =>
          simp only [ghostRef] at hc hv
          subst hv
          split at hc
          · rename_i z es hcell
            have hq0 := not0_of_live k2 hcell
            obtain ⟨v', hT⟩ := k1.at (p := q) (by rw [cellAt_wr0 _ _ hq0]; exact hcell)
            have hv' := hT.val rfl
            subst hc
            rw [hv']
            exact (toRef_rv hT hcell).rs
          · rename_i cs hcell
            have hq0 := not0_of_live k2 hcell
            obtain ⟨v', hT⟩ := k1.at (p := q) (by rw [cellAt_wr0 _ _ hq0]; exact hcell)
            have hv' := hT.val rfl
            subst hc
            rw [hv']
            exact (toRef_rv hT hcell).rs
          · subst hc; exact (RV.pure _ _ (.junk _)).rs
    obtain ⟨κ3, γ3, m1, m2, m3, m4, m5, m6, m7, m8⟩ := takeL_ok _ vals us ls H1 H2 κ2 γ2 ds2 k1 k2 (by simp [vals]) hgr ht2
    have hlen : tvs.length = res.length := by have := congrArg List.length hag; simpa using this
    have hg3 : ∀ b o q, γend γ3 us.length b o = some q → ∃ q', γ3 b o = some q' := by
      intro b o q hq
      unfold γend at hq
      split at hq
      · rename_i hg; exact ⟨_, hg⟩
      · cases hq
    have al_of : ∀ {p : Path} {u : TV} {v : Value} {κ' : Path → Value} {γ' : Nat → Nat → Option Path}, TR w' κ' γ' A p u v → (al = false → noRO u = true) → TR w' κ' γ' (fun b o => al = true ∧ A b o) p u v := by
      intro p u v κ' γ' hT hno
      cases hal' : al with
      | true => exact hT.ren (K := fun _ _ => True) _ (fun r nd _ _ => ⟨rfl, fun _ _ hb => ⟨hb, trivial⟩⟩) (Keep.refl _ w') (fun _ _ _ => trivial) (fun _ _ h => ⟨rfl, h⟩)
      | false => exact hT.noro (hno hal')
    refine ⟨κend κ3 us.length, γend γ3 us.length, rfl, ⟨by omega, ?_, ?_, ?_⟩, ?_, ?_, m1.chg⟩
    · intro j u v hu hv
      have hlt : j < tvs.length := by have := (List.getElem?_eq_some_iff.1 hu).1; omega
      have hj : tvs[j]? = some tvs[j] := List.getElem?_eq_getElem hlt
      obtain ⟨q1, q2⟩ := f3 j tvs[j] v hj hv
      have e1 : (tvs.map isAg)[j]? = (res.map isAg)[j]? := by rw [hag]
      have e2 : (tvs.map (fun u => (cellsT u).length))[j]? = (res.map (fun u => (cellsT u).length))[j]? := by rw [hln]
      simp only [List.getElem?_map, hj, hu, Option.map_some, Option.some.injEq] at e1 e2
      exact ⟨e1.symm.trans q1, e2.symm.trans q2⟩
    · intro m c hc
      rw [← hus] at hc
      have hlt := (List.getElem?_eq_some_iff.1 hc).1
      have hT2 := m1.root (0, m) c (by simp only [wr0, if_true]; rw [List.getElem?_append_left hlt]; exact hc)
      have hT3 : TR w' (κend κ3 us.length) (γend γ3 us.length) A [(0, m)] c (κend κ3 us.length [(0, m)]) := by
        have e : κend κ3 us.length [(0, m)] = κ3 [(0, m)] := by simp [κend]
        rw [e]
        refine hT2.ren (K := fun _ _ => True) _ (fun r nd _ _ => ⟨by simp [κend], fun b o hb => ⟨?_, trivial⟩⟩) (Keep.refl _ w') (fun _ _ _ => trivial) (fun _ _ h => h)
        simp only [List.singleton_append] at hb ⊢
        simp [γend, hb, hlt]
      exact al_of hT3 fun ha => List.all_eq_true.1 (hal ha).1 c (List.mem_of_getElem? hc)
    · intro m v hm
      have hlt : m < us.length := by have := (List.getElem?_eq_some_iff.1 hm).1; omega
      have e : κend κ3 us.length [(0, m)] = κ3 [(0, m)] := by simp [κend]
      rw [e, m5 _ (by intro j r hh; simp at hh; omega)]
      exact k4 m v hm
    · intro m u h3
      obtain ⟨c1, c2, q, c3, c4⟩ := b3 m u h3
      have hT2 := m1.root (0, us.length + m) u (by simp only [wr0, if_true]; rw [List.getElem?_append_right (by omega), Nat.add_sub_cancel_left]; exact c1)
      have hvm : vals[m]? = some (κ2 q) := by simp [vals, c3]
      have e1 := m4 m _ hvm
      have hlive : Live st'.H q := by
        -- it was a node, else it could not be handed back
        have hgm : (gq.map (ghostRef H1))[m]? = some (ghostRef H1 (some q)) := by simp [c3]
        have hne : ghostRef H1 (some q) ≠ .junk := (takeL_fit ht2 _ (List.mem_of_getElem? hgm)).1
        have hl1 : Live H1 q := by
          unfold ghostRef at hne
          split at hne
          · rename_i hh; cases hh
          · rename_i q' hh
            cases hh
            split at hne
            · rename_i hcell; exact ⟨_, hcell, rfl⟩
            · rename_i hcell; exact ⟨_, hcell, rfl⟩
            · exact absurd rfl hne
        rw [live_iff, ← k6 q (k8 q hl1), ← live_iff]
        exact hl1
      have e2 : κ2 q = κ [(1, m)] := by
        obtain ⟨x, hx, _⟩ := id hlive
        have hq0 := not0_of_live r2 hx
        rw [k5 q (fun j r hh => hq0 _ _ hh)]
        rcases c4 with c4 | c4
        · rw [c4, Nat.zero_add]; exact r6 m
        · rw [Nat.zero_add] at c4; exact r7 q m c4 hlive
      rw [e1, e2] at hT2
      have hT3 : TR w' (κend κ3 us.length) (γend γ3 us.length) A [(1, m)] u (κ [(1, m)]) := by
        refine hT2.ren (K := fun _ _ => True) _ (fun r nd _ _ => ⟨by simp [κend], fun b o hb => ⟨?_, trivial⟩⟩) (Keep.refl _ w') (fun _ _ _ => trivial) (fun _ _ h => h)
        simp only [List.singleton_append] at hb ⊢
        simp [γend, hb]
      exact al_of hT3 fun ha => outs_noRO (hal ha).2 h3
    · intro b o q hb
      obtain ⟨q', hq'⟩ := hg3 b o q hb
      obtain ⟨h1, h2⟩ := m1.own b o q' hq'
      exact ⟨h1, h2⟩
  cases e with
  | exit id => exact hend.elim
  | normal => exact fin hend
  | ret => exact fin hend
end
end Go.Proofs.YtloodkhdngipbaaT
