/- TM, part X: append, shown right. -/
import Derived.Test.YtloodkhdngipbaaTmV
import Derived.Deep.AppendSrc
namespace Go.Proofs.YtloodkhdngipbaaT
set_option linter.unusedVariables false
set_option linter.unusedSimpArgs false
open Go

section
variable {P : Program} {F : Fr} {st : St} {w w' w0 : World} {S0 : Nat → Nat → Prop} {κ κ' κ1 : Path → Value} {γ γ' γ1 : Nat → Nat → Option Path} {H H' H1 H2 : Hp} {A A' K : Nat → Nat → Prop} {L : List TV} {o : Oper} {E : Eff} {root : Nat}

/-! ### what is appended -/
theorem takeL_append : ∀ (xs ys us vs : List TV) (H H1 H2 : Hp) (d1 d2 : List Path), takeL xs H = some (us, H1, d1) → takeL ys H1 = some (vs, H2, d2) → takeL (xs ++ ys) H = some (us ++ vs, H2, d1 ++ d2)
  | [], ys, us, vs, H, H1, H2, d1, d2, h1, h2 => by
    simp only [takeL, Option.some.injEq, Prod.mk.injEq] at h1
    obtain ⟨rfl, rfl, rfl⟩ := h1
    simpa using h2
  | x :: xs, ys, us, vs, H, H1, H2, d1, d2, h1, h2 => by
    simp only [takeL, Option.bind_eq_some_iff, Option.some.injEq, Prod.mk.injEq] at h1
    obtain ⟨⟨u, H3, d3⟩, q1, ⟨us', H4, d4⟩, q2, rfl, rfl, rfl⟩ := h1
    have := takeL_append xs ys us' vs H3 H4 H2 d4 d2 q2 h2
    simp [takeL, q1, this]

theorem takeL_length : ∀ {xs us : List TV} {H H1 : Hp} {d : List Path}, takeL xs H = some (us, H1, d) → us.length = xs.length
  | [], us, H, H1, d, h => by
    simp only [takeL, Option.some.injEq, Prod.mk.injEq] at h
    obtain ⟨rfl, _, _⟩ := h; rfl
  | x :: xs, us, H, H1, d, h => by
    simp only [takeL, Option.bind_eq_some_iff, Option.some.injEq, Prod.mk.injEq] at h
    obtain ⟨⟨u, H3, d3⟩, q1, ⟨us', H4, d4⟩, q2, rfl, rfl, rfl⟩ := h
    simp [takeL_length q2]

def rowsRefs (p : Path) : Nat → List (List TV) → List TV
  | _, [] => []
  | i, e :: es => refsFrom p i 0 e ++ rowsRefs p (i + 1) es

theorem takeRows_flat {p : Path} : ∀ (es es' : List (List TV)) (i : Nat) (H H1 : Hp) (d : List Path), takeRows p i es H = some (es', H1, d) →
    takeL (rowsRefs p i es) H = some (es'.flatten, H1, d) ∧ es'.length = es.length ∧ ∀ (j : Nat) (e e' : List TV), es[j]? = some e → es'[j]? = some e' → e'.length = e.length
  | [], es', i, H, H1, d, h => by
    simp only [takeRows, Option.some.injEq, Prod.mk.injEq] at h
    obtain ⟨rfl, rfl, rfl⟩ := h
    exact ⟨rfl, rfl, by simp⟩
  | e :: es, es', i, H, H1, d, h => by
    simp only [takeRows, Option.bind_eq_some_iff, Option.some.injEq, Prod.mk.injEq] at h
    obtain ⟨⟨u, H3, d3⟩, q1, ⟨us', H4, d4⟩, q2, rfl, rfl, rfl⟩ := h
    obtain ⟨g1, g2, g3⟩ := takeRows_flat es us' (i + 1) H3 H4 d4 q2
    refine ⟨takeL_append _ _ _ _ _ _ _ _ _ q1 g1, by simp [g2], fun j a b ha hb => ?_⟩
    cases j with
    | zero =>
      simp at ha hb; subst ha; subst hb
      rw [takeL_length q1, refsFrom_len]
    | succ j => exact g3 j a b (by simpa using ha) (by simpa using hb)

theorem rowsRefs_get {p : Path} {z : Nat} : ∀ (es : List (List TV)) (i k : Nat) (c : TV), (∀ e ∈ es, e.length = z) → (rowsRefs p i es)[k]? = some c →
    ∃ j f u e, k = j * z + f ∧ f < z ∧ es[j]? = some e ∧ e[f]? = some u ∧ c = toRef (p ++ [(i + j, f)]) u
  | [], i, k, c, _, h => by simp [rowsRefs] at h
  | e :: es, i, k, c, hz, h => by
    have h0 := hz e (by simp)
    simp only [rowsRefs] at h
    rcases Nat.lt_or_ge k z with hk | hk
    · rw [List.getElem?_append_left (by rw [refsFrom_len]; omega), refsFrom_get] at h
      cases hu : e[k]? with
      | none => simp [hu] at h
      | some u =>
        simp only [hu, Option.map_some, Option.some.injEq] at h
        exact ⟨0, k, u, e, by simp, hk, rfl, hu, by simp [← h]⟩
    · rw [List.getElem?_append_right (by rw [refsFrom_len]; omega), refsFrom_len] at h
      obtain ⟨j, f, u, e', k1, k2, k3, k4, k5⟩ := rowsRefs_get es (i + 1) (k - e.length) c (fun e he => hz e (List.mem_cons_of_mem _ he)) h
      refine ⟨j + 1, f, u, e', by rw [Nat.add_mul]; omega, k2, by simpa using k3, k4, ?_⟩
      rw [k5]; congr 3; rw [show i + (j + 1) = i + 1 + j by omega]

theorem rowsRefs_len {p : Path} : ∀ (es : List (List TV)) (i : Nat), (rowsRefs p i es).length = es.flatten.length
  | [], i => rfl
  | e :: es, i => by simp [rowsRefs, refsFrom_len, rowsRefs_len es (i + 1)]

theorem flatten_get {z : Nat} : ∀ (es : List (List TV)) (k : Nat) (c : TV), (∀ e ∈ es, e.length = z) → es.flatten[k]? = some c → ∃ j f e, k = j * z + f ∧ f < z ∧ es[j]? = some e ∧ e[f]? = some c
  | [], k, c, _, h => by simp at h
  | e :: es, k, c, hz, h => by
    have h0 := hz e (by simp)
    rw [List.flatten_cons] at h
    rcases Nat.lt_or_ge k z with hk | hk
    · rw [List.getElem?_append_left (by omega)] at h
      exact ⟨0, k, e, by simp, hk, rfl, h⟩
    · rw [List.getElem?_append_right (by omega)] at h
      obtain ⟨j, f, e', k1, k2, k3, k4⟩ := flatten_get es (k - e.length) c (fun e he => hz e (List.mem_cons_of_mem _ he)) h
      exact ⟨j + 1, f, e', by rw [Nat.add_mul]; omega, k2, by simpa using k3, k4⟩

theorem get_flatten {z : Nat} : ∀ (es : List (List TV)) (j f : Nat) (e : List TV) (c : TV), (∀ e ∈ es, e.length = z) → es[j]? = some e → e[f]? = some c → es.flatten[j * z + f]? = some c
  | [], j, f, e, c, _, h, _ => by simp at h
  | e0 :: es, 0, f, e, c, hz, h, hc => by
    simp at h; subst h
    rw [List.flatten_cons, List.getElem?_append_left (by have := (List.getElem?_eq_some_iff.1 hc).1; omega)]
    simpa using hc
  | e0 :: es, j + 1, f, e, c, hz, h, hc => by
    have h0 := hz e0 (by simp)
    rw [List.flatten_cons, List.getElem?_append_right (by rw [Nat.add_mul]; omega), h0, show (j + 1) * z + f - z = j * z + f by rw [Nat.add_mul]; omega]
    exact get_flatten es j f e c (fun e he => hz e (List.mem_cons_of_mem _ he)) (by simpa using h) hc

theorem take1_noref {u : TV} (h : noref u = true) : take1 H u = some (u, H, []) := by
  unfold take1
  split
  · cases h
  · cases h
  · rfl
  · rw [if_pos h]

theorem takeL_noref : ∀ (cs : List TV) (H : Hp), (∀ c ∈ cs, noref c = true) → takeL cs H = some (cs, H, [])
  | [], H, _ => rfl
  | c :: cs, H, h => by simp [takeL, take1_noref (h c (by simp)), takeL_noref cs H fun c hc => h c (List.mem_cons_of_mem _ hc)]

/-- The cells of a stretch of memory. -/
def cellsAt (arr : Array Value) (o n : Nat) : List Value := (List.range n).map fun k => (arr[o + k]?).getD undef

theorem cellsAt_get {arr : Array Value} {o n j : Nat} {v : Value} (h : (cellsAt arr o n)[j]? = some v) : j < n ∧ v = (arr[o + j]?).getD undef := by
  have hlt := (List.getElem?_eq_some_iff.1 h).1
  simp only [cellsAt, List.length_map, List.length_range] at hlt
  simp only [cellsAt, List.getElem?_map, List.getElem?_range hlt, Option.map_some, Option.some.injEq] at h
  exact ⟨hlt, h.symm⟩

theorem cellsAt_len {arr : Array Value} {o n : Nat} : (cellsAt arr o n).length = n := by simp [cellsAt]

theorem cellsAt_cell {arr : Array Value} {o n B : Nat} {T : TypeId} {fz : Nat × Nat} (hb : w.heap[B]? = some (.cells arr T fz)) (hs : o + n ≤ arr.size) : ∀ j v, (cellsAt arr o n)[j]? = some v → w.cell? ((⟨B, o, none⟩ : Addr).add j) = some v := by
  intro j v hj
  obtain ⟨h1, h2⟩ := cellsAt_get hj
  rw [add_mid, cell_of hb, h2]
  rw [Array.getElem?_eq_getElem (by omega)]; rfl

/-- What stands in a stretch of a slice of one's own. -/
theorem own_elems (hh : HR w0 S0 A w κ γ H) {p : Path} {off len z : Nat} {es : List (List TV)} {v : Value} (hv : RV w κ H A (.rf p off len) v) (hc : cellAt H p = some (.sl true z es)) :
    (∀ e ∈ es, e.length = z) ∧ (len = 0 ∨ off + len ≤ es.length) ∧ ((v = .slice none 0 0 ∧ len = 0) ∨ ∃ B o1 c1 arr T, v = .slice (some ⟨B, o1, none⟩) len c1 ∧ w.heap[B]? = some (.cells arr T (0, 0)) ∧ o1 + len * z ≤ arr.size ∧
      ∀ (i f : Nat) (e : List TV) (u : TV), i < len → es[off + i]? = some e → e[f]? = some u → TR w κ γ A (p ++ [(off + i, f)]) u ((arr[o1 + (i * z + f)]?).getD undef)) := by
  obtain ⟨v0, hT⟩ := hh.at hc
  have hk0 := hT.val rfl
  cases hT with
  | pure p u v h => cases h
  | sl0 p z hk =>
    refine ⟨by simp, ?_⟩
    cases hv with
    | pure u v h => cases h
    | rf0 p z' off hk2 hcs => exact ⟨.inl rfl, .inl ⟨rfl, rfl⟩⟩
    | rf p z' n c B o off len hk2 hcs => rw [hk] at hk2; cases hk2
    | rfE p z' n c B o off o1 c1 hk2 hcs => rw [hk] at hk2; cases hk2
  | sl p z n c B o es arr T hk hl hn hz hb hs hg hcc =>
    refine ⟨hz, ?_⟩
    cases hv with
    | pure u v h => cases h
    | rf0 p z' off hk2 hcs => rw [hk] at hk2; cases hk2
    | rf p z' n' c' B' o' off len hk2 hcs hb' hn' =>
      rw [hk] at hk2; cases hk2
      simp only [shapeAt, hc, Option.bind_some, shape, Option.some.injEq, Prod.mk.injEq, true_and] at hcs
      obtain ⟨rfl, _⟩ := hcs
      obtain ⟨q1, q2⟩ := drop_take_sub (z := z) (o := 0) hb' hn'
      have q3 : n * z ≤ c * z := Nat.mul_le_mul_right z hn
      refine ⟨.inr (by omega), .inr ⟨B, o + off * z, c - off, arr, T, rfl, hb, by omega, fun i f e u hi he hu => ?_⟩⟩
      have := hcc (off + i) f e u he hu
      rw [show o + off * z + (i * z + f) = o + (off + i) * z + f by rw [Nat.add_mul]; omega]
      exact this
    | rfE p z' n' c' B' o' off o1 c1 hk2 hcs g1 g2 g3 =>
      rw [hk] at hk2; cases hk2
      simp only [shapeAt, hc, Option.bind_some, shape, Option.some.injEq, Prod.mk.injEq, true_and] at hcs
      obtain ⟨rfl, _⟩ := hcs
      exact ⟨.inl rfl, .inr ⟨B, o1, c1, arr, T, rfl, hb, by omega, fun i f e u hi => absurd hi (by omega)⟩⟩

theorem drop_take_get {es : List (List TV)} {off len j : Nat} {e : List TV} (h : ((es.drop off).take len)[j]? = some e) : j < len ∧ es[off + j]? = some e := by
  rw [List.getElem?_take] at h
  split at h
  · rename_i hj; exact ⟨hj, by rwa [List.getElem?_drop] at h⟩
  · cases h

theorem mem_drop_take {es : List (List TV)} {off len : Nat} {e : List TV} (h : e ∈ (es.drop off).take len) : e ∈ es := List.mem_of_mem_drop (List.mem_of_mem_take h)

theorem src_ok {x : TV} {v : Value} {z : Nat} {es2 : List (List TV)} {d1 : List Path} {tx te : TypeId} (htx : P.underlying tx = some (.slice te)) (h : HR w0 S0 A w κ γ H) (hx : RV w κ H A x v) (hs : srcT H x = some (z, es2, H1, d1)) :
    ∃ (news : List Value) (cs : List TV), takeL cs H = some (es2.flatten, H1, d1) ∧ (∀ e ∈ es2, e.length = z) ∧ cs.length = news.length ∧ (∀ (j : Nat) (c : TV) (y : Value), cs[j]? = some c → news[j]? = some y → RV w κ H A c y) ∧
      news.length = es2.length * z ∧ ((∀ y ∈ news, y.oneCell' = true) → Src P z tx v es2.length news w) := by
  unfold srcT at hs
  split at hs
  · rename_i p off len
    split at hs
    case h_2 => cases hs
    rename_i z0 es hc
    obtain ⟨o1, o2, o3⟩ := own_elems h hx hc
    have hz2 : ∀ e ∈ (es.drop off).take len, e.length = z0 := fun e he => o1 e (mem_drop_take he)
    have hlen : ((es.drop off).take len).length = len := by
      rw [List.length_take, List.length_drop]; rcases o2 with o2 | o2 <;> omega
    -- the cells, and what they hold
    have main : ∀ (cs us : List TV) (H5 : Hp) (d5 : List Path), takeL cs H = some (us, H5, d5) → cs.length = len * z0 →
        (∀ (k : Nat) (c : TV), cs[k]? = some c → ∃ j f e u, k = j * z0 + f ∧ f < z0 ∧ ((es.drop off).take len)[j]? = some e ∧ e[f]? = some u ∧ ∀ y, TR w κ γ A (p ++ [(off + j, f)]) u y → RV w κ H A c y) →
        ∃ news : List Value, cs.length = news.length ∧ (∀ (j : Nat) (c : TV) (y : Value), cs[j]? = some c → news[j]? = some y → RV w κ H A c y) ∧ news.length = len * z0 ∧ ((∀ y ∈ news, y.oneCell' = true) → Src P z0 tx v len news w) := by
      intro cs us H5 d5 _ hcl hcr
      rcases o3 with ⟨rfl, rfl⟩ | ⟨B, o', c1, arr, T, rfl, b1, b2, b3⟩
      · simp only [Nat.zero_mul] at hcl ⊢
        exact ⟨[], by simpa using hcl, by simp, rfl, fun _ => Src.ofNil w htx 0⟩
      · refine ⟨cellsAt arr o' (len * z0), by rw [cellsAt_len]; exact hcl, fun k c y hk hy => ?_, cellsAt_len, fun h1 => Src.ofSlice w htx _ len c1 _ cellsAt_len (cellsAt_cell b1 b2) h1⟩
        obtain ⟨j, f, e, u, k1, k2, k3, k4, k5⟩ := hcr k c hk
        obtain ⟨_, hy⟩ := cellsAt_get hy
        obtain ⟨g1, g2⟩ := drop_take_get k3
        have := b3 j f e u g1 g2 k4
        rw [← k1, ← hy] at this
        exact k5 y this
    split at hs
    · rename_i hnr
      simp only [Option.some.injEq, Prod.mk.injEq] at hs
      obtain ⟨rfl, rfl, rfl, rfl⟩ := hs
      have hnr' : ∀ c ∈ ((es.drop off).take len).flatten, noref c = true := by
        intro c hcm
        obtain ⟨e, e1, e2⟩ := List.mem_flatten.1 hcm
        exact List.all_eq_true.1 (List.all_eq_true.1 hnr e e1) c e2
      have ht := takeL_noref _ H hnr'
      obtain ⟨news, n1, n2, n3, n4⟩ := main _ _ _ _ ht (by rw [flatten_len _ hz2, hlen]) (fun k c hk => by
        obtain ⟨j, f, e, k1, k2, k3, k4⟩ := flatten_get _ k c hz2 hk
        refine ⟨j, f, e, c, k1, k2, k3, k4, fun y hy => ?_⟩
        have hns : (shape c).isSome = false := by
          have := hnr' c (List.mem_of_getElem? hk)
          cases c <;> first | rfl | (rename_i own _ _; cases own <;> first | rfl | cases this) | (rename_i own _; cases own <;> first | rfl | cases this)
        exact .pure _ _ (hy.pure_of hns))
      exact ⟨news, _, ht, hz2, n1, n2, by rw [hlen]; exact n3, by rw [hlen]; exact n4⟩
    · simp only [Option.map_eq_some_iff, Prod.mk.injEq] at hs
      obtain ⟨⟨es', H5, d5⟩, ht, rfl, rfl, rfl, rfl⟩ := hs
      obtain ⟨t1, t2, t3⟩ := takeRows_flat _ _ _ _ _ _ ht
      have hz3 : ∀ e ∈ es2, e.length = z0 := by
        intro e he
        obtain ⟨j, hj⟩ := List.getElem?_of_mem he
        have hlt := (List.getElem?_eq_some_iff.1 hj).1
        obtain ⟨e0, he0⟩ : ∃ e0, ((es.drop off).take len)[j]? = some e0 := ⟨_, List.getElem?_eq_getElem (by omega)⟩
        rw [t3 j e0 e he0 hj]
        exact hz2 e0 (List.mem_of_getElem? he0)
      obtain ⟨news, n1, n2, n3, n4⟩ := main _ _ _ _ t1 (by rw [rowsRefs_len, flatten_len _ hz2, hlen]) (fun k c hk => by
        obtain ⟨j, f, u, e, k1, k2, k3, k4, k5⟩ := rowsRefs_get _ off k c hz2 hk
        refine ⟨j, f, e, u, k1, k2, k3, k4, fun y hy => ?_⟩
        rw [k5]
        refine toRef_rv hy ?_
        obtain ⟨g1, g2⟩ := drop_take_get k3
        rw [cellAt_snoc _ _ (by rintro rfl; cases hc), hc, Option.bind_some]
        simp [kid, g2, k4])
      exact ⟨news, _, t1, hz3, n1, n2, by rw [t2, hlen]; exact n3, by rw [t2, hlen]; exact n4⟩
  · rename_i z0 es
    split at hs
    case isFalse => cases hs
    rename_i hnr
    simp only [Option.some.injEq, Prod.mk.injEq] at hs
    obtain ⟨rfl, rfl, rfl, rfl⟩ := hs
    have hnr' : ∀ c ∈ es.flatten, noref c = true := by
      intro c hcm
      obtain ⟨e, e1, e2⟩ := List.mem_flatten.1 hcm
      exact List.all_eq_true.1 (List.all_eq_true.1 hnr e e1) c e2
    have ht := takeL_noref _ H hnr'
    cases hx with
    | pure u v hr =>
      cases hr with
      | sl0 z => exact ⟨[], _, ht, by simp, rfl, by simp, by simp, fun _ => Src.ofNil w htx 0⟩
      | sle z c a =>
        exact ⟨[], _, ht, by simp, rfl, by simp, by simp, fun _ => Src.ofSlice w htx a 0 c [] (by simp) (by simp) (by simp)⟩
      | sl z n c B o es arr T fz hl hn hz hb hsz hA hc =>
        refine ⟨cellsAt arr o (n * z0), _, ht, hz, by rw [cellsAt_len, flatten_len _ hz, hl], fun k c' y hk hy => ?_, by rw [cellsAt_len, hl], fun h1 => ?_⟩
        · obtain ⟨j, f, e, k1, k2, k3, k4⟩ := flatten_get _ k c' hz hk
          obtain ⟨_, hy⟩ := cellsAt_get hy
          have := hc j f e c' k3 k4
          rw [hy, k1, ← Nat.add_assoc]
          exact .pure _ _ this
        · rw [hl]
          exact Src.ofSlice w htx _ n c _ cellsAt_len (cellsAt_cell hb hsz) h1
  · rename_i z0
    simp only [Option.some.injEq, Prod.mk.injEq] at hs
    obtain ⟨rfl, rfl, rfl, rfl⟩ := hs
    cases hx with
    | pure u v h => cases h
    | nil z => exact ⟨[], [], rfl, by simp, rfl, by simp, by simp, fun _ => Src.ofNil w htx 0⟩
  · cases hs
end
end Go.Proofs.YtloodkhdngipbaaT
