/- Texts of this session's own, one behind the other: TmU. -/
import Derived.Test.YtmedelmfkciblaaPk4
import Derived.Laws.IdiomStrings
namespace Go.Proofs.YtmedelmfkciblaaT
set_option linter.unusedVariables false
set_option linter.unusedSimpArgs false
open Go
section
variable {P : Program} {F : Fr} {st : St} {w w' w0 : World} {S0 : Nat → Nat → Prop} {κ κ' κ1 : Path → Value} {γ γ' γ1 : Nat → Nat → Option Path} {H H' H1 : Hp} {A A' K : Nat → Nat → Prop} {L : List TV} {o : Oper} {E : Eff} {root : Nat}
theorem run_callFunc {g : FuncId} {args : Array Value} (h : callable P g = true) : (callFunc g args).run P w = .ok (.enter g args) w := by
 unfold callable at h
 split at h
 case h_2 => cases h
 rename_i fn hf
 simp only [Bool.and_eq_true, bne_iff_ne, ne_eq] at h
 obtain ⟨h1, h2⟩ := h
 have h3 : fn.body ≠ none := by rintro hb; rw [hb] at h1; simp at h1
 simp [callFunc, hf, h2, h3]
theorem good_call {c : Call} {g : FuncId} {as : List (TOpd × Nat)} (hop : o.op = .call c) (hc : c.callee = .value (.func g)) (hg : callable P g = true) (hl : as.length = c.args.size)
  (hx : ∀ (j : Nat) (x : TOpd) (n : Nat), as[j]? = some (x, n) → ∃ y t, c.args[j]? = some y ∧ compOpd P t y = some x)
  (hd : ∀ d, o.dst = some d → d < F.N) (hE : opW P st root (.call g as) (· = E)) : Good P F o st E := by
 simp only [opW] at hE
 intro a w K Q hR hK
 have hrun : (execOp a.eval o).run P w = .ok (.enter g (c.args.map a.eval)) w := by
  simp [execOp, hop, resolve, hc, Act.eval, Deferred.ofValue, invoke, run_callFunc hg]
 unfold Oper.wp
 rw [hrun, Oper.upon_enter]
 have := callW_ok (vs := (c.args.map a.eval).toList) (dst := o.dst) hR hd (by simp [hl]) (fun κ γ hh ht j u n v h1 h2 => by
  rw [List.getElem?_map] at h1
  cases hj : as[j]? with
  | none => simp [hj] at h1
  | some xn =>
   obtain ⟨x, n'⟩ := xn
   simp only [hj, Option.map_some, Option.some.injEq, Prod.mk.injEq] at h1
   obtain ⟨rfl, rfl⟩ := h1
   obtain ⟨y, t, q1, q2⟩ := hx j x n' hj
   simp [q1] at h2
   rw [← h2]
   exact opd_rv q2 ht) hE
 rw [Array.toArray_toList] at this
 refine this.mono ?_
 rintro e w' ⟨x, rfl, hr⟩
 exact hK _ _ hr
theorem good_callv {c : Call} {y : Operand} {y' : TOpd} {ty : TypeId} {as : List (TOpd × Nat)} (hop : o.op = .call c) (hc : c.callee = .value y) (hy : compOpd P ty y = some y') (hl : as.length = c.args.size)
  (hx : ∀ (j : Nat) (x : TOpd) (n : Nat), as[j]? = some (x, n) → ∃ y t, c.args[j]? = some y ∧ compOpd P t y = some x)
  (hd : ∀ d, o.dst = some d → d < F.N) (hE : opW P st root (.callv y' as) (· = E)) : Good P F o st E := by
 simp only [opW] at hE
 split at hE
 case h_2 => exact hE.elim
 rename_i g caps hb
 obtain ⟨hg, hE⟩ := hE
 intro a w K Q hR hK
 have hyv : ∃ capv : Array Value, a.eval y = .func (.func g) #[] capv ∧ caps.length = capv.size ∧ ∀ κ γ, HR F.w0 F.S0 F.A w κ γ st.H → (∀ k, RV w κ st.H F.A (st.t k) ((a.tmps[k]?).getD undef)) → ∀ (j : Nat) (u : TV), caps[j]? = some u → RV w κ st.H F.A u ((capv[j]?).getD undef) := by
  obtain ⟨κ, γ, h1, h2, h3, h4, h5, h6, h7⟩ := hR
  have hv := opd_rv hy h4
  rw [hb] at hv
  have one : ∃ capv : Array Value, a.eval y = .func (.func g) #[] capv ∧ caps.length = capv.size := by
   generalize a.eval y = v at hv
   cases hv with
   | pure u v h => cases h with | fn _ _ capv hl hc => exact ⟨capv, rfl, hl⟩
   | fn _ _ capv hl hc => exact ⟨capv, rfl, hl⟩
  obtain ⟨capv, e1, e2⟩ := one
  refine ⟨capv, e1, e2, fun κ' γ' _ h4' j u hu => ?_⟩
  have hv' := opd_rv hy h4'
  rw [hb, e1] at hv'
  cases hv' with
  | pure u v h => cases h with | fn _ _ capv hl hc => exact .pure _ _ (hc j u hu)
  | fn _ _ capv hl hc => exact hc j u hu
 obtain ⟨capv, e1, e2, e3⟩ := hyv
 have hrun : (execOp a.eval o).run P w = .ok (.enter g (c.args.map a.eval ++ capv)) w := by
  simp [execOp, hop, resolve, hc, e1, Deferred.ofValue, invoke, run_callFunc hg]
 unfold Oper.wp
 rw [hrun, Oper.upon_enter]
 have := callW_ok (vs := (c.args.map a.eval ++ capv).toList) (dst := o.dst) hR hd (by simp [hl, e2]) (fun κ γ hh ht j u n v h1 h2 => by
  have hsz : (as.map fun x => (x.1.ev st, x.2)).length = (c.args.map a.eval).size := by simp [hl]
  rcases Nat.lt_or_ge j as.length with hj | hj
  ·rw [List.getElem?_append_left (by simpa using hj), List.getElem?_map, List.getElem?_eq_getElem hj] at h1
   simp only [Option.map_some, Option.some.injEq, Prod.mk.injEq] at h1
   obtain ⟨rfl, rfl⟩ := h1
   obtain ⟨y1, t, q1, q2⟩ := hx j as[j].1 as[j].2 (List.getElem?_eq_getElem hj)
   rw [Array.getElem?_toList, Array.getElem?_append_left (by simp; omega)] at h2
   simp [q1] at h2
   rw [← h2]
   exact opd_rv q2 ht
  ·rw [List.getElem?_append_right (by simpa using hj), List.length_map, List.getElem?_map] at h1
   rw [Array.getElem?_toList, Array.getElem?_append_right (by simp; omega)] at h2
   cases hc1 : caps[j - as.length]? with
   | none => simp [hc1] at h1
   | some u0 =>
    simp only [hc1, Option.map_some, Option.some.injEq, Prod.mk.injEq] at h1
    obtain ⟨rfl, rfl⟩ := h1
    have := e3 κ γ hh ht _ _ hc1
    simp only [Array.size_map, ← hl] at h2
    simpa [h2] using this) hE
 rw [Array.toArray_toList] at this
 refine this.mono ?_
 rintro e w' ⟨x, rfl, hr⟩
 exact hK _ _ hr
theorem fitB_spec {c : TV} (h : fitB c = true) : Fit c := by
 have e : ∀ x : TV, fitB x = true → x ≠ .junk ∧ (∀ vs, x ≠ .tu vs) ∧ isAg x = false := by
  intro x hx
  cases x <;> first | (simp [fitB] at hx; done) | simp [isAg]
 exact e c h
theorem cellsFit {u : TV} (h : (cellsT u).all fitB = true) : (∀ c ∈ cellsT u, c ≠ .junk) ∧ (isAg u = true ∨ ∀ vs, u ≠ .tu vs) := by
 have hf : ∀ c ∈ cellsT u, Fit c := fun c hc => fitB_spec (List.all_eq_true.1 h c hc)
 refine ⟨fun c hc => (hf c hc).1, ?_⟩
 by_cases hg : isAg u = true
 ·exact .inl hg
 ·refine .inr fun vs hh => ?_
  exact (hf (.tu vs) (by rw [hh]; simp [cellsT])).2.1 vs rfl
theorem foldl_set (cells : Array Value) (off : Nat) : ∀ (vs : List Value) (k : Nat) (j : Nat), off + k + vs.length ≤ cells.size →
  ((vs.zipIdx k).foldl (fun cs (c, j) => cs.setIfInBounds (off + j) c) cells).size = cells.size ∧
  ((vs.zipIdx k).foldl (fun cs (c, j) => cs.setIfInBounds (off + j) c) cells)[j]? = if off + k ≤ j ∧ j < off + k + vs.length then vs[j - (off + k)]? else cells[j]?
 | [], k, j, _ => by simp; omega
 | v :: vs, k, j, h => by
  simp only [List.length_cons] at h
  simp only [List.zipIdx_cons, List.foldl_cons]
  obtain ⟨h1, h2⟩ := foldl_set (cells.setIfInBounds (off + k) v) off vs (k + 1) j (by simp; omega)
  refine ⟨by simpa using h1, ?_⟩
  rw [h2]
  by_cases hj : off + (k + 1) ≤ j ∧ j < off + (k + 1) + vs.length
  ·rw [if_pos hj, if_pos (by simp; omega)]
   rw [show j - (off + k) = (j - (off + (k + 1))) + 1 by omega]
   simp
  ·rw [if_neg hj]
   by_cases hk : j = off + k
   ·subst hk
    rw [if_pos (by simp)]
    rw [Array.getElem?_setIfInBounds_self_of_lt (by omega)]
    simp
   ·rw [if_neg (by simp only [List.length_cons]; omega), Array.getElem?_setIfInBounds_ne (by omega)]
theorem fill_rv {place : Nat → Option (Nat × Nat)} : ∀ (ps : List (Nat × Nat × TV)) (vs : List (Nat × Value)) (zero cs : List TV) (cells : Array Value), ps.length = vs.length →
  (∀ (j i off n : Nat) (u : TV) (v : Value), ps[j]? = some (off, n, u) → vs[j]? = some (i, v) → place i = some (off, n) ∧ RV w κ H A u v) →
  zero.length = cells.size → (∀ (j : Nat) (u : TV), zero[j]? = some u → RV w κ H A u ((cells[j]?).getD undef)) → putParts zero ps = some cs →
  ∃ cells', Instr.fill place cells vs = some cells' ∧ cs.length = cells'.size ∧ ∀ (j : Nat) (u : TV), cs[j]? = some u → RV w κ H A u ((cells'[j]?).getD undef)
 | [], [], zero, cs, cells, _, _, hz, hc, hp => by
  simp only [putParts, Option.some.injEq] at hp; subst hp
  exact ⟨cells, rfl, hz, hc⟩
 | (off, n, u) :: ps, (i, v) :: vs, zero, cs, cells, hl, hx, hz, hc, hp => by
  simp only [putParts] at hp
  split at hp
  case isFalse => cases hp
  rename_i hcond
  obtain ⟨p1, p2, p3⟩ := hcond
  obtain ⟨q1, q2⟩ := hx 0 i off n u v rfl rfl
  obtain ⟨f1, f2⟩ := cellsFit p3
  obtain ⟨l1, l2⟩ := rv_cells q2 f1 f2
  have hsz : v.cells.size = n := by rw [← p1, l1, ← cells_toList]; simp
  simp only [Instr.fill, q1]
  rw [if_neg (by simp [hsz]; omega)]
  have hfold := fun j => foldl_set cells off (cellsV v) 0 j (by omega)
  have ezip : v.cells.zipIdx.foldl (fun cs (c, j) => cs.setIfInBounds (off + j) c) cells = ((cellsV v).zipIdx 0).foldl (fun cs (c, j) => cs.setIfInBounds (off + j) c) cells := by
   rw [← cells_toList, ← Array.foldl_toList]
   simp
  rw [ezip]
  refine fill_rv ps vs _ cs _ (by simpa using hl) (fun j i off n u v h1 h2 => hx (j + 1) i off n u v (by simpa using h1) (by simpa using h2)) ?_ ?_ hp
  ·rw [(hfold 0).1]; simp; omega
  ·intro j x hj
   rw [(hfold j).2]
   by_cases hin : off + 0 ≤ j ∧ j < off + 0 + (cellsV v).length
   ·rw [if_pos hin]
    rw [List.append_assoc, List.getElem?_append_right (by simp; omega), List.getElem?_append_left (by simp; omega)] at hj
    have e : j - (zero.take off).length = j - (off + 0) := by simp; omega
    rw [e] at hj
    have hlt : j - (off + 0) < (cellsV v).length := by omega
    have := l2 _ x _ hj (List.getElem?_eq_getElem hlt)
    rw [List.getElem?_eq_getElem hlt]; exact this
   ·rw [if_neg hin]
    rcases Nat.lt_or_ge j off with hj1 | hj1
    ·rw [List.append_assoc, List.getElem?_append_left (by simp; omega), List.getElem?_take, if_pos hj1] at hj
     exact hc j x hj
    ·rw [List.getElem?_append_right (by simp; omega), List.getElem?_drop] at hj
     have e : off + n + (j - (zero.take off ++ cellsT u).length) = j := by simp; omega
     rw [e] at hj
     exact hc j x hj
 | [], _ :: _, _, _, _, hl, _, _, _, _ => by simp at hl
 | _ :: _, [], _, _, _, hl, _, _, _, _ => by simp at hl
theorem good_build {t : TypeId} {ps : Array (Nat × Operand)} {fs : Array Field} {zv : Value} {u : TV} {ps' : List (Nat × Nat × TOpd)} (hop : o.op = .build t ps) (hu : P.underlying t = some (.struct fs)) (hz : tyZero P t = some zv) (hv : valT P t zv = some u) (hag : isAg u = true)
  (hfs : ∀ f ∈ fs.toList, (tySize P f.type).isSome = true) (hl : ps'.length = ps.size)
  (hx : ∀ (j off n : Nat) (x : TOpd), ps'[j]? = some (off, n, x) → ∃ i y f ty, ps[j]? = some (i, y) ∧ fs[i]? = some f ∧ f.offset = off ∧ tySize P f.type = some n ∧ compOpd P ty y = some x)
  (hd : ∀ d, o.dst = some d → d < F.N) (hE : opW P st root (.build (cellsT u) ps') (· = E)) : Good P F o st E := by
 simp only [opW] at hE
 split at hE
 case h_2 => exact hE.elim
 rename_i cs hp
 subst hE
 refine good_val hd fun a w κ γ hh ht => ?_
 have hzv := valT_rv (w := w) (κ := κ) (H := st.H) (A := F.A) hv
 obtain ⟨us, rfl⟩ : ∃ us, u = .ag us := by cases u <;> first | exact ⟨_, rfl⟩ | cases hag
 obtain ⟨zs, rfl, z1, z2⟩ := rv_ag hzv
 have hplaces : ∃ places : List (Nat × Nat), fs.toList.mapM (fun f => (P.info? f.type).map fun i => (f.offset, i.size)) = some places ∧ ∀ (i : Nat) (f : Field) (n : Nat), fs.toList[i]? = some f → tySize P f.type = some n → places[i]? = some (f.offset, n) := by
  revert hfs
  generalize fs.toList = l
  intro hfs
  induction l with
  | nil => exact ⟨[], by simp, by simp⟩
  | cons f l ih =>
   obtain ⟨pl, i1, i2⟩ := ih fun f hf => hfs f (List.mem_cons_of_mem _ hf)
   have := hfs f (by simp)
   obtain ⟨n, hn⟩ := Option.isSome_iff_exists.1 this
   have hn' := hn
   simp only [tySize, Option.map_eq_some_iff] at hn
   obtain ⟨inf, q1, q2⟩ := hn
   refine ⟨(f.offset, n) :: pl, by simp [List.mapM_cons, q1, i1, q2], fun i f' n' hf' hn2 => ?_⟩
   cases i with
   | zero => simp at hf'; subst hf'; rw [hn'] at hn2; cases hn2; rfl
   | succ i => simpa using i2 i f' n' (by simpa using hf') hn2
 obtain ⟨places, g1, g2⟩ := hplaces
 obtain ⟨cells', r1, r2, r3⟩ := fill_rv (w := w) (κ := κ) (H := st.H) (A := F.A) (place := fun i => places.toArray[i]?) _ ((ps.map fun (i, x) => (i, a.eval x)).toList) (cellsT (.ag us)) cs zs (by simp [hl]) (fun j i off n x v h1 h2 => by
  rw [List.getElem?_map] at h1
  cases hj : ps'[j]? with
  | none => simp [hj] at h1
  | some y =>
   obtain ⟨off', n', x'⟩ := y
   simp only [hj, Option.map_some, Option.some.injEq, Prod.mk.injEq] at h1
   obtain ⟨rfl, rfl, rfl⟩ := h1
   obtain ⟨i', y, f, ty, k1, k2, k3, k4, k5⟩ := hx j off' n' x' hj
   simp [k1] at h2
   obtain ⟨rfl, rfl⟩ := h2
   refine ⟨?_, opd_rv k5 ht⟩
   have := g2 i' f n' (by simpa using k2) k4
   simp [this, k3]) z1 z2 hp
 refine ⟨.agg cells', w, ?_, .refl w, .ag _ _ r2 r3⟩
 simp only [tyZero, Option.bind_eq_some_iff] at hz
 obtain ⟨it, t1, t2⟩ := hz
 have hb : P.built t ((ps.map fun (i, x) => (i, a.eval x)).toList) = some cells' := by
  unfold Program.built
  simp only [t1, hu, t2, g1]
  exact r1
 simp only [execOp, hop, Sem.run_bind, run_build w t _ cells' hb, Result.andThen_ok, Sem.run_pure]
end
end Go.Proofs.YtmedelmfkciblaaT

