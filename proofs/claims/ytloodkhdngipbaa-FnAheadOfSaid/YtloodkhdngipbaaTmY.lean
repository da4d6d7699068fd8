/- TM, part Y: append, joined. -/
import Derived.Test.YtloodkhdngipbaaTmX
namespace Go.Proofs.YtloodkhdngipbaaT
set_option linter.unusedVariables false
set_option linter.unusedSimpArgs false
open Go

section
variable {P : Program} {F : Fr} {st : St} {w w' w0 : World} {S0 : Nat → Nat → Prop} {κ κ' κ1 : Path → Value} {γ γ' γ1 : Nat → Nat → Option Path} {H H' H1 H2 : Hp} {A A' K : Nat → Nat → Prop} {L : List TV} {o : Oper} {E : Eff} {root : Nat}

def appκ (κ : Path → Value) (root z N n : Nat) (v : Value) : Path → Value
  | [s] => if s = (root, 0) then v else κ [s]
  | s :: t :: r => if s = (root, 0) then (if t.1 < n then κ ((0, N) :: t :: r) else κ ((0, (t.1 - n) * z + t.2) :: r)) else κ (s :: t :: r)
  | [] => κ []
def appγ (γ : Nat → Nat → Option Path) (root z N n : Nat) (Bo : Option Nat) (b o : Nat) : Option Path :=
  if some b = Bo then some [(root, 0)] else match γ b o with
    | some (s :: r) => if s.1 = 0 then (if s.2 = N then some ((root, 0) :: r) else some ((root, 0) :: (n + s.2 / z, s.2 % z) :: r)) else some (s :: r)
    | x => x

theorem appκ_other {z N n : Nat} {v : Value} (q : Path) (h : ∀ j r, q ≠ (root, j) :: r) : appκ κ root z N n v q = κ q := by
  cases q with
  | nil => rfl
  | cons s q =>
    have hs : s ≠ (root, 0) := by rintro rfl; exact h _ _ rfl
    cases q <;> simp [appκ, hs]

theorem appκ_root {z N n : Nat} {v : Value} : appκ κ root z N n v [(root, 0)] = v := if_pos rfl

theorem app_heap {z : Nat} {es es2 : List (List TV)} {vs v' : Value} {Bo : Option Nat} (h : HR w0 S0 A w κ γ (wr0 H2 (L ++ [.sl true z es]))) (hL : es2.flatten = L) (h0 : H2 0 = []) (hr : root ≠ 0) (hz2 : ∀ e ∈ es2, e.length = z)
    (hK : ∀ b o q, γ b o = some q → q ≠ [(0, L.length)] → K b o) (hBo : ∀ b o q, γ b o = some q → some b ≠ Bo) (hkeep : Keep K w w') (hA : ∀ b o, A b o → K b o)
    (hBown : ∀ b, Bo = some b → b < w'.heap.size ∧ w0.heap.size ≤ b) (hchg : Chg S0 w0 w')
    (hnode : (∀ i f (y : Value) (u : TV), i < es.length → TR w κ γ A [(0, L.length), (i, f)] u y → TR w' (appκ κ root z L.length es.length v') (appγ γ root z L.length es.length Bo) A [(root, 0), (i, f)] u y) →
      (∀ (j f : Nat) (e : List TV) (u : TV), es2[j]? = some e → e[f]? = some u → TR w' (appκ κ root z L.length es.length v') (appγ γ root z L.length es.length Bo) A [(root, 0), (es.length + j, f)] u (κ [(0, j * z + f)])) →
      TR w' (appκ κ root z L.length es.length v') (appγ γ root z L.length es.length Bo) A [(root, 0)] (.sl true z (es ++ es2)) v') :
    HR w0 S0 A w' (appκ κ root z L.length es.length v') (appγ γ root z L.length es.length Bo) (setRoot H2 root [.sl true z (es ++ es2)]) := by
  refine h.regroup (K := K) h0 hr (fun q hq hq0 hl => ⟨appκ_other q hq, fun b o hb => ⟨?_, ?_⟩⟩) (fun s hs hs0 => appκ_other _ (by rintro j r hh; simp at hh; exact hs (by rw [hh.1]))) hkeep hA ?_ hchg ?_
  · simp only [appγ, hBo b o q hb, if_false, hb]
    cases q with
    | nil => rfl
    | cons s r =>
      have : s.1 ≠ 0 := by intro hs; exact hq0 s.2 r (by rw [← hs])
      simp [this]
  · exact hK b o q hb (by rintro rfl; exact hq0 _ _ rfl)
  · intro b o q hb
    simp only [appγ] at hb
    split at hb
    · rename_i hbb
      obtain ⟨g1, g2⟩ := hBown b hbb.symm
      exact ⟨g1, .inr g2⟩
    · have : ∃ q', γ b o = some q' := by
        cases hg : γ b o with
        | none => rw [hg] at hb; cases hb
        | some q' => exact ⟨q', rfl⟩
      obtain ⟨q', hq'⟩ := this
      obtain ⟨g1, g2⟩ := h.own b o q' hq'
      exact ⟨Nat.lt_of_lt_of_le g1 hkeep.size, g2⟩
  · intro j x hx
    cases j with
    | succ j => simp at hx
    | zero =>
      simp only [List.getElem?_cons_zero, Option.some.injEq] at hx
      subst hx
      rw [appκ_root]
      refine hnode (fun i f y u hi hT => ?_) (fun j f e u he hu => ?_)
      · refine hT.ren (K := K) _ (fun r nd hd hs => ⟨by simp [appκ, hi], fun b o' hb => ⟨?_, ?_⟩⟩) hkeep hA (fun _ _ h => h)
        · simp only [List.cons_append, List.nil_append] at hb ⊢
          simp only [appγ, hBo b o' _ hb, if_false, hb, if_true]
        · exact hK b o' _ hb (by simp)
      · have hfl := get_flatten es2 j f e u hz2 he hu
        rw [hL] at hfl
        have hfz : f < z := by have := (List.getElem?_eq_some_iff.1 hu).1; rw [hz2 e (List.mem_of_getElem? he)] at this; exact this
        have hlt := (List.getElem?_eq_some_iff.1 hfl).1
        have hT := h.root (0, j * z + f) u (by simp only [wr0, if_true]; rw [List.getElem?_append_left hlt]; exact hfl)
        refine hT.ren (K := K) _ (fun r nd hd hs => ⟨?_, fun b o' hb => ⟨?_, ?_⟩⟩) hkeep hA (fun _ _ h => h)
        · have e1 : ¬ (es.length + j < es.length) := by omega
          have e2 : es.length + j - es.length = j := by omega
          simp [appκ, e1, e2]
        · simp only [List.cons_append, List.nil_append] at hb ⊢
          have hne : j * z + f ≠ L.length := by omega
          have e1 : (j * z + f) / z = j := by rw [Nat.mul_comm, Nat.mul_add_div (by omega), Nat.div_eq_of_lt hfz, Nat.add_zero]
          have e2 : (j * z + f) % z = f := by rw [Nat.mul_comm, Nat.mul_add_mod, Nat.mod_eq_of_lt hfz]
          simp only [appγ, hBo b o' _ hb, if_false, hb, if_true, hne, e1, e2]
        · refine hK b o' _ hb (by simp; omega)

theorem setCells_rest : ∀ (vs : List Value) (w : World) (B off : Nat), (w.setCells B off vs).os = w.os ∧ (w.setCells B off vs).tape = w.tape ∧ (w.setCells B off vs).output = w.output
  | [], w, B, off => ⟨rfl, rfl, rfl⟩
  | v :: vs, w, B, off => by
    obtain ⟨h1, h2, h3⟩ := setCells_rest vs (w.setCell ⟨B, off, none⟩ v) B (off + 1)
    exact ⟨h1, h2, h3⟩

theorem append_get {es es2 : List (List TV)} {i f : Nat} {e : List TV} {u : TV} (he : (es ++ es2)[i]? = some e) (hu : e[f]? = some u) : (i < es.length ∧ es[i]? = some e) ∨ ∃ j, i = es.length + j ∧ es2[j]? = some e := by
  rcases Nat.lt_or_ge i es.length with hi | hi
  · rw [List.getElem?_append_left hi] at he; exact .inl ⟨hi, he⟩
  · rw [List.getElem?_append_right hi] at he; exact .inr ⟨i - es.length, by omega, he⟩

theorem good_app {t tx e ex : TypeId} {z by_ : Nat} {zc : Value} {s x : Operand} {s' x' : TOpd} {ts tx' : TypeId} {c : Call} (hop : o.op = .call c) (hc : c.callee = .builtin .append) (ha : c.args.toList = [s, x]) (hat : c.argTypes.toList = [t, tx])
    (hu : P.underlying t = some (.slice e)) (hux : P.underlying tx = some (.slice ex)) (hz : tySize P e = some z) (hb : tyBytes P e = some by_) (hzv : tyZero P e = some zc) (hzs : zc.cells.size = z) (hz0 : z ≠ 0) (hb0 : by_ ≠ 0)
    (hs : compOpd P ts s = some s') (hx : compOpd P tx' x = some x')
    (hd : ∀ d, o.dst = some d → d < F.N) (hE : opW P st root (.app z by_ s' x') (· = E)) : Good P F o st E := by
  simp only [opW] at hE
  split at hE
  case h_2 => exact hE.elim
  rename_i z2 es2 H1 d1 hsrc
  split at hE
  case h_2 => exact hE.elim
  rename_i z' es H2 d2 htk
  obtain ⟨rfl, rfl, hroot, hr, hby, rfl⟩ := hE
  intro a w K Q hR hK
  have hrun : ∀ (a : Act) (w : World), (execOp a.eval o).run P w = ((Builtin.append_ #[t, tx] o.type #[a.eval s, a.eval x]).run P w).andThen fun v w' => .ok (.value v) w' := by
    intro a w
    have e1 : c.args = #[s, x] := by rw [← Array.toArray_toList (xs := c.args), ha]
    have e2 : c.argTypes = #[t, tx] := by rw [← Array.toArray_toList (xs := c.argTypes), hat]
    simp [execOp, hop, resolve, hc, e1, e2, invoke, builtin]
  obtain ⟨κ, γ, h1, h2, h3, h4, h5, h6, h7⟩ := hR
  simp only [tySize, Option.map_eq_some_iff] at hz
  obtain ⟨ie, i1, i2⟩ := hz
  simp only [tyZero, Option.bind_eq_some_iff] at hzv
  obtain ⟨ie', i3, i4⟩ := hzv
  rw [i1] at i3; cases i3
  simp only [tyBytes, i1, Option.map_some, Option.some.injEq] at hb
  subst hb
  -- what is appended is taken
  obtain ⟨L, hL⟩ : ∃ L, es2.flatten = L := ⟨_, rfl⟩
  obtain ⟨news, cs, t1, t2, t3, t4, t5, t6⟩ := src_ok hux h1 (opd_rv hx h4) hsrc
  have hH : HR F.w0 F.S0 F.A w κ γ (wr0 st.H []) := by rw [wr0_self h2]; exact h1
  obtain ⟨κ1, γ1, k1, k2, k3, k4, k5, k6, k7, k8⟩ := takeL_ok cs news [] L st.H H1 κ γ d1 hH h2 t3 (fun j c v hj hv => (t4 j c v hj hv).rs) (by rw [← hL]; exact t1)
  simp only [List.nil_append, List.length_nil, Nat.zero_add] at k1 k4 k5
  have hone : ∀ y ∈ news, y.oneCell' = true := by
    intro y hy
    obtain ⟨j, hj⟩ := List.getElem?_of_mem hy
    have hlt : j < cs.length := by have := (List.getElem?_eq_some_iff.1 hj).1; omega
    exact oneCell_of (t4 j _ y (List.getElem?_eq_getElem hlt) hj) (takeL_fit t1 _ (List.getElem_mem hlt))
  have hSrc := t6 hone
  have tk1 : Took κ κ1 st.H H1 0 d1 := ⟨k2, fun q hq => k5 q (fun j r hh => hq j r (by rw [Nat.zero_add]; exact hh)), k6, k8⟩
  -- what it is appended to
  have hsv : RV w κ1 H1 F.A (s'.ev st) (a.eval s) := ((opd_rv hs h4).rs.after (fun q hq => tk1.live q hq)).rv htk
  obtain ⟨κ2, γ2, m1, m2, m3, m4, m5, m6, m7⟩ := take1_ok k1 k2 hsv htk
  have hnl : L.length = news.length := by rw [← hL, flatten_len es2 t2, t5]
  have hT := m1.root (0, L.length) (.sl true z2 es) (by simp [wr0])
  rw [m3] at hT
  have hκnew : ∀ (j : Nat) (y : Value), news[j]? = some y → κ2 [(0, j)] = y := by
    intro j y hj
    have hlt := (List.getElem?_eq_some_iff.1 hj).1
    rw [m4 _ (by rintro ⟨r, hh⟩; simp at hh; omega)]
    exact k4 j y hj
  have hAown : ∀ b o, F.A b o → ∀ q, γ2 b o ≠ some q := fun b o ha q hq => m1.notA hq ha
  have hlive : ∀ q, (∀ p ∈ d1 ++ d2, ¬ p <+: q) → shapeAt H2 q = shapeAt st.H q := fun q hq =>
    (m5 q fun p hp => hq p (List.mem_append_right _ hp)).trans (k6 q fun p hp => hq p (List.mem_append_left _ hp))
  have hκ02 : ∀ q, (∀ j r, q ≠ (0, j) :: r) → κ2 q = κ q := fun q hq =>
    (m4 q (by rintro ⟨r, hh⟩; exact hq _ r hh.symm)).trans (k5 q fun j r hh => hq j r hh)
  -- the end, once for all
  have fin : ∀ (v' : Value) (w' : World) (K' : Nat → Nat → Prop) (Bo : Option Nat), ((Builtin.append_ #[t, tx] o.type #[a.eval s, a.eval x]).run P w) = .ok v' w' →
      (∀ b o q, γ2 b o = some q → q ≠ [(0, L.length)] → K' b o) → (∀ b o q, γ2 b o = some q → some b ≠ Bo) → Keep K' w w' → (∀ b o, F.A b o → K' b o) →
      (∀ b, Bo = some b → b < w'.heap.size ∧ F.w0.heap.size ≤ b) → Chg F.S0 F.w0 w' →
      ((∀ i f (y : Value) (u : TV), i < es.length → TR w κ2 γ2 F.A [(0, L.length), (i, f)] u y → TR w' (appκ κ2 root z2 L.length es.length v') (appγ γ2 root z2 L.length es.length Bo) F.A [(root, 0), (i, f)] u y) →
      (∀ (j f : Nat) (e : List TV) (u : TV), es2[j]? = some e → e[f]? = some u → TR w' (appκ κ2 root z2 L.length es.length v') (appγ γ2 root z2 L.length es.length Bo) F.A [(root, 0), (es.length + j, f)] u (κ2 [(0, j * z2 + f)])) →
      TR w' (appκ κ2 root z2 L.length es.length v') (appγ γ2 root z2 L.length es.length Bo) F.A [(root, 0)] (.sl true z2 (es ++ es2)) v') → o.wp P a w K Q := by
    intro v' w' K' Bo hrn c1 c2 c3 c4 c5 c6 c7
    unfold Oper.wp
    rw [hrun a w, hrn, Result.andThen_ok, Oper.upon_value]
    have hh := app_heap (vs := a.eval s) m1 hL m2 (by omega : root ≠ 0) t2 c1 c2 c3 c4 c5 c6 c7
    refine hK _ _ (Rel.freshF h2 m2 (notroot_free hroot hlive) hr h3 hd h5 h6 h7 (by simp) h4 hh (fun q q0 q1 => (appκ_other q q1).trans (hκ02 q q0)) hlive c3 c4 fun _ => ?_)
    have hcell : cellAt (setRoot H2 root [.sl true z2 (es ++ es2)]) [(root, 0)] = some (.sl true z2 (es ++ es2)) := by simp [cellAt, setRoot, down]
    have hTn := hh.root (root, 0) (.sl true z2 (es ++ es2)) (by simp [setRoot])
    rw [appκ_root] at hTn
    have := toRef_rv hTn hcell
    simpa [toRef] using this
  have hbytes : (es.length + es2.length) * ie.bytes ≤ 140737488355328 := by rw [Nat.mul_comm]; exact hby
  have hsmall : es.length + es2.length ≤ 140737488355328 := by
    have : (es.length + es2.length) * 1 ≤ (es.length + es2.length) * ie.bytes := Nat.mul_le_mul_left _ (by omega)
    omega
  have newat : ∀ (j f : Nat) (e : List TV) (u : TV), es2[j]? = some e → e[f]? = some u → j * z2 + f < news.length ∧ f < z2 := by
    intro j f e u he hu
    have := (List.getElem?_eq_some_iff.1 (get_flatten es2 j f e u t2 he hu)).1
    rw [hL] at this
    have hfz : f < z2 := by have := (List.getElem?_eq_some_iff.1 hu).1; rw [t2 e (List.mem_of_getElem? he)] at this; exact this
    omega
  have hSrc' : Src P ie.size tx (a.eval x) es2.length news w := by rw [i2]; exact hSrc
  -- a new row
  have grow : ∀ (base : Option Addr) (n cap : Nat) (olds : List Value), a.eval s = .slice base n cap → n = es.length → (Builtin.firstCells ie.size n (.slice base n cap)).run P w.drew = .ok olds.toArray w.drew → olds.length = n * z2 → cap < n + es2.length →
      (∀ (i f : Nat) (e : List TV) (u : TV), es[i]? = some e → e[f]? = some u → f < z2 ∧ ∃ y, olds[i * z2 + f]? = some y ∧ TR w κ2 γ2 F.A [(0, L.length), (i, f)] u y) → (∀ e ∈ es, e.length = z2) → o.wp P a w K Q := by
    intro base n cap olds e1 e2 e3 e4 e5 e6 e7
    have hr' := run_append_grow_src (P := P) w t tx o.type e ie zc hu i1 i4 base n cap olds e3 (a.eval x) es2.length news hSrc' e5 (by omega) (growslice_fits e5 (by rw [e2]; exact hbytes))
    have hge := grownCap_ge w (n + es2.length) cap e
    obtain ⟨c', hc'⟩ : ∃ c', c' = grownCap w (n + es2.length) cap e := ⟨_, rfl⟩
    rw [← hc'] at hr' hge
    obtain ⟨arr, harr⟩ : ∃ arr, arr = (olds ++ news).toArray ++ Builtin.zeroCells zc.cells (c' - (n + es2.length)) := ⟨_, rfl⟩
    rw [← harr] at hr'
    have hasz : arr.size = c' * z2 := by
      rw [harr]
      simp only [Array.size_append, List.size_toArray, List.length_append, size_zeroCells, hzs, e4, t5]
      rw [← Nat.add_mul, ← Nat.add_mul]
      congr 1; omega
    have hkeep : Keep (fun _ _ => True) w (w.drew.alloc (.cells arr e)) := by
      have := Keep.alloc w.drew (.cells arr e) (fun _ _ => True)
      exact ⟨this.size, this.cells, this.rest⟩
    refine fin _ _ (fun _ _ => True) (some w.heap.size) (by rw [e1]; exact hr') (fun _ _ _ _ _ => trivial) (fun b o' q hb => ?_) hkeep (fun _ _ _ => trivial) ?_ ?_ (fun hold hnew => ?_)
    · have := (m1.own b o' q hb).1
      intro hh; cases hh; omega
    · intro b hb; cases hb
      have := h1.size_le
      exact ⟨by simp, this⟩
    · exact h1.chg.trans (S' := fun _ _ => False) ⟨rfl, rfl, rfl, hkeep.mono fun _ _ _ => trivial⟩ (fun _ _ h => h.elim)
    · refine .sl _ z2 _ c' w.heap.size 0 _ arr e appκ_root (by simp [e2]) hge ?_ (heap_new w.drew _) (by omega) (fun k hk => by simp [appγ]) (fun i f r u he hu' => ?_)
      · intro r hr'
        rcases List.mem_append.1 hr' with h | h
        · exact e7 r h
        · exact t2 r h
      · rw [Nat.zero_add]
        rcases append_get he hu' with ⟨hi, he'⟩ | ⟨j, rfl, he'⟩
        · obtain ⟨hfz, y, hy1, hy2⟩ := e6 i f r u he' hu'
          have hlt := (List.getElem?_eq_some_iff.1 hy1).1
          have e8 : arr[i * z2 + f]? = some y := by
            rw [harr, Array.getElem?_append_left (by simp; omega), List.getElem?_toArray, List.getElem?_append_left hlt]
            exact hy1
          rw [e8]
          exact hold i f y u hi hy2
        · obtain ⟨hlt, hfz⟩ := newat j f r u he' hu'
          have e9 : (es.length + j) * z2 + f = n * z2 + (j * z2 + f) := by rw [Nat.add_mul, e2]; omega
          have e8 : arr[(es.length + j) * z2 + f]? = news[j * z2 + f]? := by
            rw [harr, e9, Array.getElem?_append_left (by simp; omega), List.getElem?_toArray, List.getElem?_append_right (by omega), e4]
            congr 1; omega
          rw [e8, List.getElem?_eq_getElem hlt, Option.getD_some, ← hκnew _ _ (List.getElem?_eq_getElem hlt)]
          exact hnew j f r u he' hu'
  have hsl : ∃ base n cap, a.eval s = .slice base n cap := by
    revert hT
    generalize a.eval s = vs
    intro hT
    cases hT with
    | pure _ _ _ h => cases h
    | sl0 => exact ⟨_, _, _, rfl⟩
    | sl => exact ⟨_, _, _, rfl⟩
  obtain ⟨base, n, cap, hvs⟩ := hsl
  rw [hvs] at hT
  generalize hq : Value.slice base n cap = vs at hT
  cases hT with
  | pure p u v h => cases h
  | sl0 p z hk =>
    cases hq
    by_cases hm : es2 = []
    · subst hm
      have hnews : news = [] := List.eq_nil_of_length_eq_zero (by simpa using t5)
      subst hnews
      have hr0 : (Builtin.append_ #[t, tx] o.type #[.slice none 0 0, a.eval x]).run P w = .ok (.slice none 0 0) w := by
        have hl0 := hSrc'.len
        have hc0 := hSrc'.cells
        simp only [List.length_nil] at hl0 hc0
        simp [Builtin.append_, run_underlying hu, run_underlying hux, sizeOf, typeInfo, i1, hl0, hc0]
      refine fin _ _ (fun _ _ => True) none (by rw [hvs]; exact hr0) (fun _ _ _ _ _ => trivial) (fun _ _ _ _ => by simp) (Keep.refl _ w) (fun _ _ _ => trivial) (by simp) h1.chg (fun _ _ => ?_)
      simpa using TR.sl0 _ _ appκ_root
    · have hpos : 0 < es2.length := by cases es2 with
        | nil => exact absurd rfl hm
        | cons => simp
      exact grow none 0 0 [] hvs rfl (run_firstCells_none _ _ _ _ _) (by simp) (by simpa using hpos) (by simp) (by simp)
  | sl p z n' c' B o' es' arr T hk hl hn hzz hb' hsz hg hcc =>
    cases hq
    by_cases hroom : n + es2.length ≤ cap
    · -- there is room
      have q1 : (n + es2.length) * z2 ≤ cap * z2 := Nat.mul_le_mul_right _ hroom
      rw [Nat.add_mul] at q1
      have hspare : ∀ j, j < news.length → γ2 B (o' + n * z2 + j) = some [(0, L.length)] := by
        intro j hj
        rw [Nat.add_assoc]
        exact hg _ (by omega)
      obtain ⟨r1, arr', r2, r3, r4⟩ := Keep.setCells news (o' + n * z2) w arr hb' (by omega)
      have hr' := run_append_room_src (P := P) w t tx o.type e ie hu i1 B o' n cap (a.eval x) es2.length news hSrc' hroom
        (fun j hj => by rw [i2, cell_of hb']; simp; omega) (fun j hj => by simp [World.frozen?, hb'])
      rw [i2] at hr'
      have hKq : ∀ b o1 q, γ2 b o1 = some q → q ≠ [(0, L.length)] → b ≠ B ∨ o1 < o' + n * z2 ∨ o' + n * z2 + news.length ≤ o1 := by
        intro b o1 q hb1 hq1
        by_cases hh : b ≠ B ∨ o1 < o' + n * z2 ∨ o' + n * z2 + news.length ≤ o1
        · exact hh
        · exfalso
          have hbB : b = B := by
            by_cases hbb : b = B
            · exact hbb
            · exact absurd (.inl hbb) hh
          subst hbB
          have := hspare (o1 - (o' + n * z2)) (by omega)
          rw [show o' + n * z2 + (o1 - (o' + n * z2)) = o1 by omega, hb1] at this
          cases this; exact hq1 rfl
      have hKA : ∀ b o1, F.A b o1 → b ≠ B ∨ o1 < o' + n * z2 ∨ o' + n * z2 + news.length ≤ o1 := by
        intro b o1 ha1
        by_cases hh : b ≠ B ∨ o1 < o' + n * z2 ∨ o' + n * z2 + news.length ≤ o1
        · exact hh
        · exfalso
          have hbB : b = B := by
            by_cases hbb : b = B
            · exact hbb
            · exact absurd (.inl hbb) hh
          subst hbB
          have := hspare (o1 - (o' + n * z2)) (by omega)
          rw [show o' + n * z2 + (o1 - (o' + n * z2)) = o1 by omega] at this
          exact hAown _ _ ha1 _ this
      refine fin _ _ _ none (by rw [hvs]; exact hr') hKq (fun _ _ _ _ => by simp) r1 hKA (by simp) ?_ (fun hold hnew => ?_)
      · refine h1.chg.trans (S' := fun b o1 => ¬ (b ≠ B ∨ o1 < o' + n * z2 ∨ o' + n * z2 + news.length ≤ o1)) ⟨?_, ?_, ?_, ?_⟩ ?_
        · exact (setCells_rest _ _ _ _).1
        · exact (setCells_rest _ _ _ _).2.1
        · exact (setCells_rest _ _ _ _).2.2
        · exact r1.mono fun b o1 hh => Classical.not_not.1 hh
        · intro b o1 hh hlt
          have hbB : b = B := by
            by_cases hbb : b = B
            · exact hbb
            · exact absurd (.inl hbb) hh
          subst hbB
          have := hspare (o1 - (o' + n * z2)) (by omega)
          rw [show o' + n * z2 + (o1 - (o' + n * z2)) = o1 by omega] at this
          rcases (m1.own _ _ _ this).2 with h | h
          · exact h
          · omega
      · refine .sl _ z2 _ cap B o' _ arr' T appκ_root (by simp [hl]) hroom ?_ r2 (by omega) (fun k hk' => ?_) (fun i f r u he hu' => ?_)
        · intro r hr'
          rcases List.mem_append.1 hr' with h | h
          · exact hzz r h
          · exact t2 r h
        · simp [appγ, hg k hk']
        · rcases append_get he hu' with ⟨hi, he'⟩ | ⟨j, rfl, he'⟩
          · have hfz : f < z2 := by have := (List.getElem?_eq_some_iff.1 hu').1; rw [hzz r (List.mem_of_getElem? he')] at this; exact this
            have hix := ix_lt (n := n) (by omega : i < n) hfz
            obtain ⟨arr2, x1, x2, x3⟩ := r1.cells _ _ _ _ hb'
            rw [r2] at x1; cases x1
            rw [x3 (o' + i * z2 + f) (.inr (.inl (by omega)))]
            exact hold i f _ u hi (hcc i f r u he' hu')
          · obtain ⟨hlt, hfz⟩ := newat j f r u he' hu'
            have e9 : o' + (es.length + j) * z2 + f = o' + n * z2 + (j * z2 + f) := by rw [Nat.add_mul, hl]; omega
            rw [e9, r4 _ _ (List.getElem?_eq_getElem hlt), Option.getD_some, ← hκnew _ _ (List.getElem?_eq_getElem hlt)]
            exact hnew j f r u he' hu'
    · have q1 : n * z2 ≤ cap * z2 := Nat.mul_le_mul_right _ hn
      refine grow (some ⟨B, o', none⟩) n cap (cellsAt arr o' (n * z2)) hvs hl.symm ?_ cellsAt_len (by omega) (fun i f r u he hu' => ?_) hzz
      · rw [i2]
        refine run_firstCells_some w.drew z2 n _ n cap _ cellsAt_len ?_
        intro j v hj
        have := cellsAt_cell (w := w) hb' (by omega : o' + n * z2 ≤ arr.size) j v hj
        simpa using this
      · have hfz : f < z2 := by have := (List.getElem?_eq_some_iff.1 hu').1; rw [hzz r (List.mem_of_getElem? he)] at this; exact this
        have hi : i < n := by have := (List.getElem?_eq_some_iff.1 he).1; omega
        have hix := ix_lt (n := n) hi hfz
        refine ⟨hfz, (arr[o' + (i * z2 + f)]?).getD undef, ?_, ?_⟩
        · simp only [cellsAt, List.getElem?_map, List.getElem?_range hix, Option.map_some]
        · have := hcc i f r u he hu'
          rwa [Nat.add_assoc] at this
end
end Go.Proofs.YtloodkhdngipbaaT
