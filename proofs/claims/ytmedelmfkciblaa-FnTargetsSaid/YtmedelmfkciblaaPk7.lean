/- Texts of this session's own, one behind the other: TmX, TmY, TmW, TmZ, TmAa, TmAb, TmAc, TmAd, TmAp, TmAe, TmAl. -/
import Derived.Test.YtmedelmfkciblaaPk6
import Derived.Deep.AppendSrc
namespace Go.Proofs.YtmedelmfkciblaaT
set_option linter.unusedVariables false
set_option linter.unusedSimpArgs false
open Go
section
variable {P : Program} {F : Fr} {st : St} {w w' w0 : World} {S0 : Nat → Nat → Prop} {κ κ' κ1 : Path → Value} {γ γ' γ1 : Nat → Nat → Option Path} {H H' H1 H2 : Hp} {A A' K : Nat → Nat → Prop} {L : List TV} {o : Oper} {E : Eff} {root : Nat}
theorem takeL_append : ∀ (xs ys us vs : List TV) (H H1 H2 : Hp) (d1 d2 : List Path), takeL xs H = some (us, H1, d1) → takeL ys H1 = some (vs, H2, d2) → takeL (xs ++ ys) H = some (us ++ vs, H2, d1 ++ d2)
 | [], ys, us, vs, H, H1, H2, d1, d2, h1, h2 => by
  simp only [takeL, Option.some.injEq, Prod.mk.injEq] at h1
  obtain ⟨rfl, rfl, rfl⟩ := h1
  simpa using h2
 | x :: xs, ys, us, vs, H, H1, H2, d1, d2, h1, h2 => by
  simp only [takeL, Option.bind_eq_some_iff, Option.some.injEq, Prod.mk.injEq] at h1
  obtain ⟨⟨u, H3, d3⟩, q1, ⟨us', H4, d4⟩, q2, rfl, rfl, rfl⟩ := h1
  have := takeL_append xs ys us' vs H3 H4 H2 d4 d2 q2 h2
  simp [takeL, q1, this]
theorem takeL_length : ∀ {xs us : List TV} {H H1 : Hp} {d : List Path}, takeL xs H = some (us, H1, d) → us.length = xs.length
 | [], us, H, H1, d, h => by
  simp only [takeL, Option.some.injEq, Prod.mk.injEq] at h
  obtain ⟨rfl, _, _⟩ := h; rfl
 | x :: xs, us, H, H1, d, h => by
  simp only [takeL, Option.bind_eq_some_iff, Option.some.injEq, Prod.mk.injEq] at h
  obtain ⟨⟨u, H3, d3⟩, q1, ⟨us', H4, d4⟩, q2, rfl, rfl, rfl⟩ := h
  simp [takeL_length q2]
def rowsRefs (p : Path) : Nat → List (List TV) → List TV
 | _, [] => []
 | i, e :: es => refsFrom p i 0 e ++ rowsRefs p (i + 1) es
theorem takeRows_flat {p : Path} : ∀ (es es' : List (List TV)) (i : Nat) (H H1 : Hp) (d : List Path), takeRows p i es H = some (es', H1, d) →
  takeL (rowsRefs p i es) H = some (es'.flatten, H1, d) ∧ es'.length = es.length ∧ ∀ (j : Nat) (e e' : List TV), es[j]? = some e → es'[j]? = some e' → e'.length = e.length
 | [], es', i, H, H1, d, h => by
  simp only [takeRows, Option.some.injEq, Prod.mk.injEq] at h
  obtain ⟨rfl, rfl, rfl⟩ := h
  exact ⟨rfl, rfl, by simp⟩
 | e :: es, es', i, H, H1, d, h => by
  simp only [takeRows, Option.bind_eq_some_iff, Option.some.injEq, Prod.mk.injEq] at h
  obtain ⟨⟨u, H3, d3⟩, q1, ⟨us', H4, d4⟩, q2, rfl, rfl, rfl⟩ := h
  obtain ⟨g1, g2, g3⟩ := takeRows_flat es us' (i + 1) H3 H4 d4 q2
  refine ⟨takeL_append _ _ _ _ _ _ _ _ _ q1 g1, by simp [g2], fun j a b ha hb => ?_⟩
  cases j with
  | zero =>
   simp at ha hb; subst ha; subst hb
   rw [takeL_length q1, refsFrom_len]
  | succ j => exact g3 j a b (by simpa using ha) (by simpa using hb)
theorem rowsRefs_get {p : Path} {z : Nat} : ∀ (es : List (List TV)) (i k : Nat) (c : TV), (∀ e ∈ es, e.length = z) → (rowsRefs p i es)[k]? = some c →
  ∃ j f u e, k = j * z + f ∧ f < z ∧ es[j]? = some e ∧ e[f]? = some u ∧ c = toRef (p ++ [(i + j, f)]) u
 | [], i, k, c, _, h => by simp [rowsRefs] at h
 | e :: es, i, k, c, hz, h => by
  have h0 := hz e (by simp)
  simp only [rowsRefs] at h
  rcases Nat.lt_or_ge k z with hk | hk
  ·rw [List.getElem?_append_left (by rw [refsFrom_len]; omega), refsFrom_get] at h
   cases hu : e[k]? with
   | none => simp [hu] at h
   | some u =>
    simp only [hu, Option.map_some, Option.some.injEq] at h
    exact ⟨0, k, u, e, by simp, hk, rfl, hu, by simp [← h]⟩
  ·rw [List.getElem?_append_right (by rw [refsFrom_len]; omega), refsFrom_len] at h
   obtain ⟨j, f, u, e', k1, k2, k3, k4, k5⟩ := rowsRefs_get es (i + 1) (k - e.length) c (fun e he => hz e (List.mem_cons_of_mem _ he)) h
   refine ⟨j + 1, f, u, e', by rw [Nat.add_mul]; omega, k2, by simpa using k3, k4, ?_⟩
   rw [k5]; congr 3; rw [show i + (j + 1) = i + 1 + j by omega]
theorem rowsRefs_len {p : Path} : ∀ (es : List (List TV)) (i : Nat), (rowsRefs p i es).length = es.flatten.length
 | [], i => rfl
 | e :: es, i => by simp [rowsRefs, refsFrom_len, rowsRefs_len es (i + 1)]
theorem flatten_get {z : Nat} : ∀ (es : List (List TV)) (k : Nat) (c : TV), (∀ e ∈ es, e.length = z) → es.flatten[k]? = some c → ∃ j f e, k = j * z + f ∧ f < z ∧ es[j]? = some e ∧ e[f]? = some c
 | [], k, c, _, h => by simp at h
 | e :: es, k, c, hz, h => by
  have h0 := hz e (by simp)
  rw [List.flatten_cons] at h
  rcases Nat.lt_or_ge k z with hk | hk
  ·rw [List.getElem?_append_left (by omega)] at h
   exact ⟨0, k, e, by simp, hk, rfl, h⟩
  ·rw [List.getElem?_append_right (by omega)] at h
   obtain ⟨j, f, e', k1, k2, k3, k4⟩ := flatten_get es (k - e.length) c (fun e he => hz e (List.mem_cons_of_mem _ he)) h
   exact ⟨j + 1, f, e', by rw [Nat.add_mul]; omega, k2, by simpa using k3, k4⟩
theorem get_flatten {z : Nat} : ∀ (es : List (List TV)) (j f : Nat) (e : List TV) (c : TV), (∀ e ∈ es, e.length = z) → es[j]? = some e → e[f]? = some c → es.flatten[j * z + f]? = some c
 | [], j, f, e, c, _, h, _ => by simp at h
 | e0 :: es, 0, f, e, c, hz, h, hc => by
  simp at h; subst h
  rw [List.flatten_cons, List.getElem?_append_left (by have := (List.getElem?_eq_some_iff.1 hc).1; omega)]
  simpa using hc
 | e0 :: es, j + 1, f, e, c, hz, h, hc => by
  have h0 := hz e0 (by simp)
  rw [List.flatten_cons, List.getElem?_append_right (by rw [Nat.add_mul]; omega), h0, show (j + 1) * z + f - z = j * z + f by rw [Nat.add_mul]; omega]
  exact get_flatten es j f e c (fun e he => hz e (List.mem_cons_of_mem _ he)) (by simpa using h) hc
theorem take1_noref {u : TV} (h : noref u = true) : take1 H u = some (u, H, []) := by
 unfold take1
 split
 ·cases h
 ·cases h
 ·rfl
 ·rw [if_pos h]
theorem takeL_noref : ∀ (cs : List TV) (H : Hp), (∀ c ∈ cs, noref c = true) → takeL cs H = some (cs, H, [])
 | [], H, _ => rfl
 | c :: cs, H, h => by simp [takeL, take1_noref (h c (by simp)), takeL_noref cs H fun c hc => h c (List.mem_cons_of_mem _ hc)]
def cellsAt (arr : Array Value) (o n : Nat) : List Value := (List.range n).map fun k => (arr[o + k]?).getD undef
theorem cellsAt_get {arr : Array Value} {o n j : Nat} {v : Value} (h : (cellsAt arr o n)[j]? = some v) : j < n ∧ v = (arr[o + j]?).getD undef := by
 have hlt := (List.getElem?_eq_some_iff.1 h).1
 simp only [cellsAt, List.length_map, List.length_range] at hlt
 simp only [cellsAt, List.getElem?_map, List.getElem?_range hlt, Option.map_some, Option.some.injEq] at h
 exact ⟨hlt, h.symm⟩
theorem cellsAt_len {arr : Array Value} {o n : Nat} : (cellsAt arr o n).length = n := by simp [cellsAt]
theorem cellsAt_cell {arr : Array Value} {o n B : Nat} {T : TypeId} {fz : Nat × Nat} (hb : w.heap[B]? = some (.cells arr T fz)) (hs : o + n ≤ arr.size) : ∀ j v, (cellsAt arr o n)[j]? = some v → w.cell? ((⟨B, o, none⟩ : Addr).add j) = some v := by
 intro j v hj
 obtain ⟨h1, h2⟩ := cellsAt_get hj
 rw [add_mid, cell_of hb, h2]
 rw [Array.getElem?_eq_getElem (by omega)]; rfl
theorem own_elems (hh : HR w0 S0 A w κ γ H) {p : Path} {off len z : Nat} {es : List (List TV)} {v : Value} (hv : RV w κ H A (.rf p off len) v) (hc : cellAt H p = some (.sl true z es)) :
  (∀ e ∈ es, e.length = z) ∧ (len = 0 ∨ off + len ≤ es.length) ∧ ((v = .slice none 0 0 ∧ len = 0) ∨ ∃ B o1 c1 arr T, v = .slice (some ⟨B, o1, none⟩) len c1 ∧ w.heap[B]? = some (.cells arr T (0, 0)) ∧ o1 + len * z ≤ arr.size ∧
   ∀ (i f : Nat) (e : List TV) (u : TV), i < len → es[off + i]? = some e → e[f]? = some u → TR w κ γ A (p ++ [(off + i, f)]) u ((arr[o1 + (i * z + f)]?).getD undef)) := by
 obtain ⟨v0, hT⟩ := hh.at hc
 have hk0 := hT.val rfl
 cases hT with
 | pure p u v h => cases h
 | sl0 p z hk =>
  refine ⟨by simp, ?_⟩
  cases hv with
  | pure u v h => cases h
  | rf0 p z' off hk2 hcs => exact ⟨.inl rfl, .inl ⟨rfl, rfl⟩⟩
  | rf p z' n c B o off len hk2 hcs => rw [hk] at hk2; cases hk2
  | rfE p z' n c B o off o1 c1 hk2 hcs => rw [hk] at hk2; cases hk2
 | sl p z n c B o es arr T hk hl hn hz hb hs hg hcc =>
  refine ⟨hz, ?_⟩
  cases hv with
  | pure u v h => cases h
  | rf0 p z' off hk2 hcs => rw [hk] at hk2; cases hk2
  | rf p z' n' c' B' o' off len hk2 hcs hb' hn' =>
   rw [hk] at hk2; cases hk2
   simp only [shapeAt, hc, Option.bind_some, shape, Option.some.injEq, Prod.mk.injEq, true_and] at hcs
   obtain ⟨rfl, _⟩ := hcs
   obtain ⟨q1, q2⟩ := drop_take_sub (z := z) (o := 0) hb' hn'
   have q3 : n * z ≤ c * z := Nat.mul_le_mul_right z hn
   refine ⟨.inr (by omega), .inr ⟨B, o + off * z, c - off, arr, T, rfl, hb, by omega, fun i f e u hi he hu => ?_⟩⟩
   have := hcc (off + i) f e u he hu
   rw [show o + off * z + (i * z + f) = o + (off + i) * z + f by rw [Nat.add_mul]; omega]
   exact this
  | rfE p z' n' c' B' o' off o1 c1 hk2 hcs g1 g2 g3 =>
   rw [hk] at hk2; cases hk2
   simp only [shapeAt, hc, Option.bind_some, shape, Option.some.injEq, Prod.mk.injEq, true_and] at hcs
   obtain ⟨rfl, _⟩ := hcs
   exact ⟨.inl rfl, .inr ⟨B, o1, c1, arr, T, rfl, hb, by omega, fun i f e u hi => absurd hi (by omega)⟩⟩
theorem drop_take_get {es : List (List TV)} {off len j : Nat} {e : List TV} (h : ((es.drop off).take len)[j]? = some e) : j < len ∧ es[off + j]? = some e := by
 rw [List.getElem?_take] at h
 split at h
 ·rename_i hj; exact ⟨hj, by rwa [List.getElem?_drop] at h⟩
 ·cases h
theorem mem_drop_take {es : List (List TV)} {off len : Nat} {e : List TV} (h : e ∈ (es.drop off).take len) : e ∈ es := List.mem_of_mem_drop (List.mem_of_mem_take h)
theorem src_ok {x : TV} {v : Value} {z : Nat} {es2 : List (List TV)} {d1 : List Path} {tx te : TypeId} (htx : P.underlying tx = some (.slice te)) (h : HR w0 S0 A w κ γ H) (hx : RV w κ H A x v) (hs : srcT H x = some (z, es2, H1, d1)) :
  ∃ (news : List Value) (cs : List TV), takeL cs H = some (es2.flatten, H1, d1) ∧ (∀ e ∈ es2, e.length = z) ∧ cs.length = news.length ∧ (∀ (j : Nat) (c : TV) (y : Value), cs[j]? = some c → news[j]? = some y → RV w κ H A c y) ∧
   news.length = es2.length * z ∧ ((∀ y ∈ news, y.oneCell' = true) → Src P z tx v es2.length news w) := by
 unfold srcT at hs
 split at hs
 ·rename_i p off len
  split at hs
  case h_2 => cases hs
  rename_i z0 es hc
  obtain ⟨o1, o2, o3⟩ := own_elems h hx hc
  have hz2 : ∀ e ∈ (es.drop off).take len, e.length = z0 := fun e he => o1 e (mem_drop_take he)
  have hlen : ((es.drop off).take len).length = len := by
   rw [List.length_take, List.length_drop]; rcases o2 with o2 | o2 <;> omega
  have main : ∀ (cs us : List TV) (H5 : Hp) (d5 : List Path), takeL cs H = some (us, H5, d5) → cs.length = len * z0 →
    (∀ (k : Nat) (c : TV), cs[k]? = some c → ∃ j f e u, k = j * z0 + f ∧ f < z0 ∧ ((es.drop off).take len)[j]? = some e ∧ e[f]? = some u ∧ ∀ y, TR w κ γ A (p ++ [(off + j, f)]) u y → RV w κ H A c y) →
    ∃ news : List Value, cs.length = news.length ∧ (∀ (j : Nat) (c : TV) (y : Value), cs[j]? = some c → news[j]? = some y → RV w κ H A c y) ∧ news.length = len * z0 ∧ ((∀ y ∈ news, y.oneCell' = true) → Src P z0 tx v len news w) := by
   intro cs us H5 d5 _ hcl hcr
   rcases o3 with ⟨rfl, rfl⟩ | ⟨B, o', c1, arr, T, rfl, b1, b2, b3⟩
   ·simp only [Nat.zero_mul] at hcl ⊢
    exact ⟨[], by simpa using hcl, by simp, rfl, fun _ => Src.ofNil w htx 0⟩
   ·refine ⟨cellsAt arr o' (len * z0), by rw [cellsAt_len]; exact hcl, fun k c y hk hy => ?_, cellsAt_len, fun h1 => Src.ofSlice w htx _ len c1 _ cellsAt_len (cellsAt_cell b1 b2) h1⟩
    obtain ⟨j, f, e, u, k1, k2, k3, k4, k5⟩ := hcr k c hk
    obtain ⟨_, hy⟩ := cellsAt_get hy
    obtain ⟨g1, g2⟩ := drop_take_get k3
    have := b3 j f e u g1 g2 k4
    rw [← k1, ← hy] at this
    exact k5 y this
  split at hs
  ·rename_i hnr
   simp only [Option.some.injEq, Prod.mk.injEq] at hs
   obtain ⟨rfl, rfl, rfl, rfl⟩ := hs
   have hnr' : ∀ c ∈ ((es.drop off).take len).flatten, noref c = true := by
    intro c hcm
    obtain ⟨e, e1, e2⟩ := List.mem_flatten.1 hcm
    exact List.all_eq_true.1 (List.all_eq_true.1 hnr e e1) c e2
   have ht := takeL_noref _ H hnr'
   obtain ⟨news, n1, n2, n3, n4⟩ := main _ _ _ _ ht (by rw [flatten_len _ hz2, hlen]) (fun k c hk => by
    obtain ⟨j, f, e, k1, k2, k3, k4⟩ := flatten_get _ k c hz2 hk
    refine ⟨j, f, e, c, k1, k2, k3, k4, fun y hy => ?_⟩
    have hns : (shape c).isSome = false := by
     have := hnr' c (List.mem_of_getElem? hk)
     cases c <;> first | rfl | (rename_i own _ _; cases own <;> first | rfl | cases this) | (rename_i own _; cases own <;> first | rfl | cases this)
    exact .pure _ _ (hy.pure_of hns))
   exact ⟨news, _, ht, hz2, n1, n2, by rw [hlen]; exact n3, by rw [hlen]; exact n4⟩
  ·simp only [Option.map_eq_some_iff, Prod.mk.injEq] at hs
   obtain ⟨⟨es', H5, d5⟩, ht, rfl, rfl, rfl, rfl⟩ := hs
   obtain ⟨t1, t2, t3⟩ := takeRows_flat _ _ _ _ _ _ ht
   have hz3 : ∀ e ∈ es2, e.length = z0 := by
    intro e he
    obtain ⟨j, hj⟩ := List.getElem?_of_mem he
    have hlt := (List.getElem?_eq_some_iff.1 hj).1
    obtain ⟨e0, he0⟩ : ∃ e0, ((es.drop off).take len)[j]? = some e0 := ⟨_, List.getElem?_eq_getElem (by omega)⟩
    rw [t3 j e0 e he0 hj]
    exact hz2 e0 (List.mem_of_getElem? he0)
   obtain ⟨news, n1, n2, n3, n4⟩ := main _ _ _ _ t1 (by rw [rowsRefs_len, flatten_len _ hz2, hlen]) (fun k c hk => by
    obtain ⟨j, f, u, e, k1, k2, k3, k4, k5⟩ := rowsRefs_get _ off k c hz2 hk
    refine ⟨j, f, e, u, k1, k2, k3, k4, fun y hy => ?_⟩
    rw [k5]
    refine toRef_rv hy ?_
    obtain ⟨g1, g2⟩ := drop_take_get k3
    rw [cellAt_snoc _ _ (by rintro rfl; cases hc), hc, Option.bind_some]
    simp [kid, g2, k4])
   exact ⟨news, _, t1, hz3, n1, n2, by rw [t2, hlen]; exact n3, by rw [t2, hlen]; exact n4⟩
 ·rename_i z0 es
  split at hs
  case isFalse => cases hs
  rename_i hnr
  simp only [Option.some.injEq, Prod.mk.injEq] at hs
  obtain ⟨rfl, rfl, rfl, rfl⟩ := hs
  have hnr' : ∀ c ∈ es.flatten, noref c = true := by
   intro c hcm
   obtain ⟨e, e1, e2⟩ := List.mem_flatten.1 hcm
   exact List.all_eq_true.1 (List.all_eq_true.1 hnr e e1) c e2
  have ht := takeL_noref _ H hnr'
  cases hx with
  | pure u v hr =>
   cases hr with
   | sl0 z => exact ⟨[], _, ht, by simp, rfl, by simp, by simp, fun _ => Src.ofNil w htx 0⟩
   | sle z c a =>
    exact ⟨[], _, ht, by simp, rfl, by simp, by simp, fun _ => Src.ofSlice w htx a 0 c [] (by simp) (by simp) (by simp)⟩
   | sl z n c B o es arr T fz hl hn hz hb hsz hA hc =>
    refine ⟨cellsAt arr o (n * z0), _, ht, hz, by rw [cellsAt_len, flatten_len _ hz, hl], fun k c' y hk hy => ?_, by rw [cellsAt_len, hl], fun h1 => ?_⟩
    ·obtain ⟨j, f, e, k1, k2, k3, k4⟩ := flatten_get _ k c' hz hk
     obtain ⟨_, hy⟩ := cellsAt_get hy
     have := hc j f e c' k3 k4
     rw [hy, k1, ← Nat.add_assoc]
     exact .pure _ _ this
    ·rw [hl]
     exact Src.ofSlice w htx _ n c _ cellsAt_len (cellsAt_cell hb hsz) h1
 ·rename_i z0
  simp only [Option.some.injEq, Prod.mk.injEq] at hs
  obtain ⟨rfl, rfl, rfl, rfl⟩ := hs
  cases hx with
  | pure u v h => cases h
  | nil z => exact ⟨[], [], rfl, by simp, rfl, by simp, by simp, fun _ => Src.ofNil w htx 0⟩
 ·cases hs
end
end Go.Proofs.YtmedelmfkciblaaT


namespace Go.Proofs.YtmedelmfkciblaaT
set_option linter.unusedVariables false
set_option linter.unusedSimpArgs false
open Go
section
variable {P : Program} {F : Fr} {st : St} {w w' w0 : World} {S0 : Nat → Nat → Prop} {κ κ' κ1 : Path → Value} {γ γ' γ1 : Nat → Nat → Option Path} {H H' H1 H2 : Hp} {A A' K : Nat → Nat → Prop} {L : List TV} {o : Oper} {E : Eff} {root : Nat}
def appκ (κ : Path → Value) (root z N n : Nat) (v : Value) : Path → Value
 | [s] => if s = (root, 0) then v else κ [s]
 | s :: t :: r => if s = (root, 0) then (if t.1 < n then κ ((0, N) :: t :: r) else κ ((0, (t.1 - n) * z + t.2) :: r)) else κ (s :: t :: r)
 | [] => κ []
def appγ (γ : Nat → Nat → Option Path) (root z N n : Nat) (Bo : Option Nat) (b o : Nat) : Option Path :=
 if some b = Bo then some [(root, 0)] else match γ b o with
  | some (s :: r) => if s.1 = 0 then (if s.2 = N then some ((root, 0) :: r) else some ((root, 0) :: (n + s.2 / z, s.2 % z) :: r)) else some (s :: r)
  | x => x
theorem appκ_other {z N n : Nat} {v : Value} (q : Path) (h : ∀ j r, q ≠ (root, j) :: r) : appκ κ root z N n v q = κ q := by
 cases q with
 | nil => rfl
 | cons s q =>
  have hs : s ≠ (root, 0) := by rintro rfl; exact h _ _ rfl
  cases q <;> simp [appκ, hs]
theorem appκ_root {z N n : Nat} {v : Value} : appκ κ root z N n v [(root, 0)] = v := if_pos rfl
theorem app_heap {z : Nat} {es es2 : List (List TV)} {vs v' : Value} {Bo : Option Nat} (h : HR w0 S0 A w κ γ (wr0 H2 (L ++ [.sl true z es]))) (hL : es2.flatten = L) (h0 : H2 0 = []) (hr : root ≠ 0) (hz2 : ∀ e ∈ es2, e.length = z)
  (hK : ∀ b o q, γ b o = some q → q ≠ [(0, L.length)] → K b o) (hBo : ∀ b o q, γ b o = some q → some b ≠ Bo) (hkeep : Keep K w w') (hA : ∀ b o, A b o → K b o)
  (hBown : ∀ b, Bo = some b → b < w'.heap.size ∧ w0.heap.size ≤ b) (hchg : Chg S0 w0 w')
  (hnode : (∀ i f (y : Value) (u : TV), i < es.length → TR w κ γ A [(0, L.length), (i, f)] u y → TR w' (appκ κ root z L.length es.length v') (appγ γ root z L.length es.length Bo) A [(root, 0), (i, f)] u y) →
   (∀ (j f : Nat) (e : List TV) (u : TV), es2[j]? = some e → e[f]? = some u → TR w' (appκ κ root z L.length es.length v') (appγ γ root z L.length es.length Bo) A [(root, 0), (es.length + j, f)] u (κ [(0, j * z + f)])) →
   TR w' (appκ κ root z L.length es.length v') (appγ γ root z L.length es.length Bo) A [(root, 0)] (.sl true z (es ++ es2)) v') :
  HR w0 S0 A w' (appκ κ root z L.length es.length v') (appγ γ root z L.length es.length Bo) (setRoot H2 root [.sl true z (es ++ es2)]) := by
 refine h.regroup (K := K) h0 hr (fun q hq hq0 hl => ⟨appκ_other q hq, fun b o hb => ⟨?_, ?_⟩⟩) (fun s hs hs0 => appκ_other _ (by rintro j r hh; simp at hh; exact hs (by rw [hh.1]))) hkeep hA ?_ hchg ?_
 ·simp only [appγ, hBo b o q hb, if_false, hb]
  cases q with
  | nil => rfl
  | cons s r =>
   have : s.1 ≠ 0 := by intro hs; exact hq0 s.2 r (by rw [← hs])
   simp [this]
 ·exact hK b o q hb (by rintro rfl; exact hq0 _ _ rfl)
 ·intro b o q hb
  simp only [appγ] at hb
  split at hb
  ·rename_i hbb
   obtain ⟨g1, g2⟩ := hBown b hbb.symm
   exact ⟨g1, .inr g2⟩
  ·have : ∃ q', γ b o = some q' := by
    cases hg : γ b o with
    | none => rw [hg] at hb; cases hb
    | some q' => exact ⟨q', rfl⟩
   obtain ⟨q', hq'⟩ := this
   obtain ⟨g1, g2⟩ := h.own b o q' hq'
   exact ⟨Nat.lt_of_lt_of_le g1 hkeep.size, g2⟩
 ·intro j x hx
  cases j with
  | succ j => simp at hx
  | zero =>
   simp only [List.getElem?_cons_zero, Option.some.injEq] at hx
   subst hx
   rw [appκ_root]
   refine hnode (fun i f y u hi hT => ?_) (fun j f e u he hu => ?_)
   ·refine hT.ren (K := K) _ (fun r nd hd hs => ⟨by simp [appκ, hi], fun b o' hb => ⟨?_, ?_⟩⟩) hkeep hA (fun _ _ h => h)
    ·simp only [List.cons_append, List.nil_append] at hb ⊢
     simp only [appγ, hBo b o' _ hb, if_false, hb, if_true]
    ·exact hK b o' _ hb (by simp)
   ·have hfl := get_flatten es2 j f e u hz2 he hu
    rw [hL] at hfl
    have hfz : f < z := by have := (List.getElem?_eq_some_iff.1 hu).1; rw [hz2 e (List.mem_of_getElem? he)] at this; exact this
    have hlt := (List.getElem?_eq_some_iff.1 hfl).1
    have hT := h.root (0, j * z + f) u (by simp only [wr0, if_true]; rw [List.getElem?_append_left hlt]; exact hfl)
    refine hT.ren (K := K) _ (fun r nd hd hs => ⟨?_, fun b o' hb => ⟨?_, ?_⟩⟩) hkeep hA (fun _ _ h => h)
    ·have e1 : ¬ (es.length + j < es.length) := by omega
     have e2 : es.length + j - es.length = j := by omega
     simp [appκ, e1, e2]
    ·simp only [List.cons_append, List.nil_append] at hb ⊢
     have hne : j * z + f ≠ L.length := by omega
     have e1 : (j * z + f) / z = j := by rw [Nat.mul_comm, Nat.mul_add_div (by omega), Nat.div_eq_of_lt hfz, Nat.add_zero]
     have e2 : (j * z + f) % z = f := by rw [Nat.mul_comm, Nat.mul_add_mod, Nat.mod_eq_of_lt hfz]
     simp only [appγ, hBo b o' _ hb, if_false, hb, if_true, hne, e1, e2]
    ·refine hK b o' _ hb (by simp; omega)
theorem setCells_rest : ∀ (vs : List Value) (w : World) (B off : Nat), (w.setCells B off vs).os = w.os ∧ (w.setCells B off vs).tape = w.tape ∧ (w.setCells B off vs).output = w.output
 | [], w, B, off => ⟨rfl, rfl, rfl⟩
 | v :: vs, w, B, off => by
  obtain ⟨h1, h2, h3⟩ := setCells_rest vs (w.setCell ⟨B, off, none⟩ v) B (off + 1)
  exact ⟨h1, h2, h3⟩
theorem append_get {es es2 : List (List TV)} {i f : Nat} {e : List TV} {u : TV} (he : (es ++ es2)[i]? = some e) (hu : e[f]? = some u) : (i < es.length ∧ es[i]? = some e) ∨ ∃ j, i = es.length + j ∧ es2[j]? = some e := by
 rcases Nat.lt_or_ge i es.length with hi | hi
 ·rw [List.getElem?_append_left hi] at he; exact .inl ⟨hi, he⟩
 ·rw [List.getElem?_append_right hi] at he; exact .inr ⟨i - es.length, by omega, he⟩
theorem good_app {t tx e ex : TypeId} {z by_ : Nat} {zc : Value} {s x : Operand} {s' x' : TOpd} {ts tx' : TypeId} {c : Call} (hop : o.op = .call c) (hc : c.callee = .builtin .append) (ha : c.args.toList = [s, x]) (hat : c.argTypes.toList = [t, tx])
  (hu : P.underlying t = some (.slice e)) (hux : P.underlying tx = some (.slice ex)) (hz : tySize P e = some z) (hb : tyBytes P e = some by_) (hzv : tyZero P e = some zc) (hzs : zc.cells.size = z) (hz0 : z ≠ 0) (hb0 : by_ ≠ 0)
  (hs : compOpd P ts s = some s') (hx : compOpd P tx' x = some x')
  (hd : ∀ d, o.dst = some d → d < F.N) (hE : opW P st root (.app z by_ s' x') (· = E)) : Good P F o st E := by
 simp only [opW] at hE
 split at hE
 case h_2 => exact hE.elim
 rename_i z2 es2 H1 d1 hsrc
 split at hE
 case h_2 => exact hE.elim
 rename_i z' es H2 d2 htk
 obtain ⟨rfl, rfl, hroot, hr, hby, rfl⟩ := hE
 intro a w K Q hR hK
 have hrun : ∀ (a : Act) (w : World), (execOp a.eval o).run P w = ((Builtin.append_ #[t, tx] o.type #[a.eval s, a.eval x]).run P w).andThen fun v w' => .ok (.value v) w' := by
  intro a w
  have e1 : c.args = #[s, x] := by rw [← Array.toArray_toList (xs := c.args), ha]
  have e2 : c.argTypes = #[t, tx] := by rw [← Array.toArray_toList (xs := c.argTypes), hat]
  simp [execOp, hop, resolve, hc, e1, e2, invoke, builtin]
 obtain ⟨κ, γ, h1, h2, h3, h4, h5, h6, h7⟩ := hR
 simp only [tySize, Option.map_eq_some_iff] at hz
 obtain ⟨ie, i1, i2⟩ := hz
 simp only [tyZero, Option.bind_eq_some_iff] at hzv
 obtain ⟨ie', i3, i4⟩ := hzv
 rw [i1] at i3; cases i3
 simp only [tyBytes, i1, Option.map_some, Option.some.injEq] at hb
 subst hb
 obtain ⟨L, hL⟩ : ∃ L, es2.flatten = L := ⟨_, rfl⟩
 obtain ⟨news, cs, t1, t2, t3, t4, t5, t6⟩ := src_ok hux h1 (opd_rv hx h4) hsrc
 have hH : HR F.w0 F.S0 F.A w κ γ (wr0 st.H []) := by rw [wr0_self h2]; exact h1
 obtain ⟨κ1, γ1, k1, k2, k3, k4, k5, k6, k7, k8⟩ := takeL_ok cs news [] L st.H H1 κ γ d1 hH h2 t3 (fun j c v hj hv => (t4 j c v hj hv).rs) (by rw [← hL]; exact t1)
 simp only [List.nil_append, List.length_nil, Nat.zero_add] at k1 k4 k5
 have hone : ∀ y ∈ news, y.oneCell' = true := by
  intro y hy
  obtain ⟨j, hj⟩ := List.getElem?_of_mem hy
  have hlt : j < cs.length := by have := (List.getElem?_eq_some_iff.1 hj).1; omega
  exact oneCell_of (t4 j _ y (List.getElem?_eq_getElem hlt) hj) (takeL_fit t1 _ (List.getElem_mem hlt))
 have hSrc := t6 hone
 have tk1 : Took κ κ1 st.H H1 0 d1 := ⟨k2, fun q hq => k5 q (fun j r hh => hq j r (by rw [Nat.zero_add]; exact hh)), k6, k8⟩
 have hsv : RV w κ1 H1 F.A (s'.ev st) (a.eval s) := ((opd_rv hs h4).rs.after (fun q hq => tk1.live q hq)).rv htk
 obtain ⟨κ2, γ2, m1, m2, m3, m4, m5, m6, m7⟩ := take1_ok k1 k2 hsv htk
 have hnl : L.length = news.length := by rw [← hL, flatten_len es2 t2, t5]
 have hT := m1.root (0, L.length) (.sl true z2 es) (by simp [wr0])
 rw [m3] at hT
 have hκnew : ∀ (j : Nat) (y : Value), news[j]? = some y → κ2 [(0, j)] = y := by
  intro j y hj
  have hlt := (List.getElem?_eq_some_iff.1 hj).1
  rw [m4 _ (by rintro ⟨r, hh⟩; simp at hh; omega)]
  exact k4 j y hj
 have hAown : ∀ b o, F.A b o → ∀ q, γ2 b o ≠ some q := fun b o ha q hq => m1.notA hq ha
 have hlive : ∀ q, (∀ p ∈ d1 ++ d2, ¬ p <+: q) → shapeAt H2 q = shapeAt st.H q := fun q hq =>
  (m5 q fun p hp => hq p (List.mem_append_right _ hp)).trans (k6 q fun p hp => hq p (List.mem_append_left _ hp))
 have hκ02 : ∀ q, (∀ j r, q ≠ (0, j) :: r) → κ2 q = κ q := fun q hq =>
  (m4 q (by rintro ⟨r, hh⟩; exact hq _ r hh.symm)).trans (k5 q fun j r hh => hq j r hh)
 have fin : ∀ (v' : Value) (w' : World) (K' : Nat → Nat → Prop) (Bo : Option Nat), ((Builtin.append_ #[t, tx] o.type #[a.eval s, a.eval x]).run P w) = .ok v' w' →
   (∀ b o q, γ2 b o = some q → q ≠ [(0, L.length)] → K' b o) → (∀ b o q, γ2 b o = some q → some b ≠ Bo) → Keep K' w w' → (∀ b o, F.A b o → K' b o) →
   (∀ b, Bo = some b → b < w'.heap.size ∧ F.w0.heap.size ≤ b) → Chg F.S0 F.w0 w' →
   ((∀ i f (y : Value) (u : TV), i < es.length → TR w κ2 γ2 F.A [(0, L.length), (i, f)] u y → TR w' (appκ κ2 root z2 L.length es.length v') (appγ γ2 root z2 L.length es.length Bo) F.A [(root, 0), (i, f)] u y) →
   (∀ (j f : Nat) (e : List TV) (u : TV), es2[j]? = some e → e[f]? = some u → TR w' (appκ κ2 root z2 L.length es.length v') (appγ γ2 root z2 L.length es.length Bo) F.A [(root, 0), (es.length + j, f)] u (κ2 [(0, j * z2 + f)])) →
   TR w' (appκ κ2 root z2 L.length es.length v') (appγ γ2 root z2 L.length es.length Bo) F.A [(root, 0)] (.sl true z2 (es ++ es2)) v') → o.wp P a w K Q := by
  intro v' w' K' Bo hrn c1 c2 c3 c4 c5 c6 c7
  unfold Oper.wp
  rw [hrun a w, hrn, Result.andThen_ok, Oper.upon_value]
  have hh := app_heap (vs := a.eval s) m1 hL m2 (by omega : root ≠ 0) t2 c1 c2 c3 c4 c5 c6 c7
  refine hK _ _ (Rel.freshF h2 m2 (notroot_free hroot hlive) hr h3 hd h5 h6 h7 (by simp) h4 hh (fun q q0 q1 => (appκ_other q q1).trans (hκ02 q q0)) hlive c3 c4 fun _ => ?_)
  have hcell : cellAt (setRoot H2 root [.sl true z2 (es ++ es2)]) [(root, 0)] = some (.sl true z2 (es ++ es2)) := by simp [cellAt, setRoot, down]
  have hTn := hh.root (root, 0) (.sl true z2 (es ++ es2)) (by simp [setRoot])
  rw [appκ_root] at hTn
  have := toRef_rv hTn hcell
  simpa [toRef] using this
 have hbytes : (es.length + es2.length) * ie.bytes ≤ 140737488355328 := by rw [Nat.mul_comm]; exact hby
 have hsmall : es.length + es2.length ≤ 140737488355328 := by
  have : (es.length + es2.length) * 1 ≤ (es.length + es2.length) * ie.bytes := Nat.mul_le_mul_left _ (by omega)
  omega
 have newat : ∀ (j f : Nat) (e : List TV) (u : TV), es2[j]? = some e → e[f]? = some u → j * z2 + f < news.length ∧ f < z2 := by
  intro j f e u he hu
  have := (List.getElem?_eq_some_iff.1 (get_flatten es2 j f e u t2 he hu)).1
  rw [hL] at this
  have hfz : f < z2 := by have := (List.getElem?_eq_some_iff.1 hu).1; rw [t2 e (List.mem_of_getElem? he)] at this; exact this
  omega
 have hSrc' : Src P ie.size tx (a.eval x) es2.length news w := by rw [i2]; exact hSrc
 have grow : ∀ (base : Option Addr) (n cap : Nat) (olds : List Value), a.eval s = .slice base n cap → n = es.length → (Builtin.firstCells ie.size n (.slice base n cap)).run P w.drew = .ok olds.toArray w.drew → olds.length = n * z2 → cap < n + es2.length →
   (∀ (i f : Nat) (e : List TV) (u : TV), es[i]? = some e → e[f]? = some u → f < z2 ∧ ∃ y, olds[i * z2 + f]? = some y ∧ TR w κ2 γ2 F.A [(0, L.length), (i, f)] u y) → (∀ e ∈ es, e.length = z2) → o.wp P a w K Q := by
  intro base n cap olds e1 e2 e3 e4 e5 e6 e7
  have hr' := run_append_grow_src (P := P) w t tx o.type e ie zc hu i1 i4 base n cap olds e3 (a.eval x) es2.length news hSrc' e5 (by omega) (growslice_fits e5 (by rw [e2]; exact hbytes))
  have hge := grownCap_ge w (n + es2.length) cap e
  obtain ⟨c', hc'⟩ : ∃ c', c' = grownCap w (n + es2.length) cap e := ⟨_, rfl⟩
  rw [← hc'] at hr' hge
  obtain ⟨arr, harr⟩ : ∃ arr, arr = (olds ++ news).toArray ++ Builtin.zeroCells zc.cells (c' - (n + es2.length)) := ⟨_, rfl⟩
  rw [← harr] at hr'
  have hasz : arr.size = c' * z2 := by
   rw [harr]
   simp only [Array.size_append, List.size_toArray, List.length_append, size_zeroCells, hzs, e4, t5]
   rw [← Nat.add_mul, ← Nat.add_mul]
   congr 1; omega
  have hkeep : Keep (fun _ _ => True) w (w.drew.alloc (.cells arr e)) := by
   have := Keep.alloc w.drew (.cells arr e) (fun _ _ => True)
   exact ⟨this.size, this.cells, this.rest⟩
  refine fin _ _ (fun _ _ => True) (some w.heap.size) (by rw [e1]; exact hr') (fun _ _ _ _ _ => trivial) (fun b o' q hb => ?_) hkeep (fun _ _ _ => trivial) ?_ ?_ (fun hold hnew => ?_)
  ·have := (m1.own b o' q hb).1
   intro hh; cases hh; omega
  ·intro b hb; cases hb
   have := h1.size_le
   exact ⟨by simp, this⟩
  ·exact h1.chg.trans (S' := fun _ _ => False) ⟨rfl, rfl, rfl, hkeep.mono fun _ _ _ => trivial⟩ (fun _ _ h => h.elim)
  ·refine .sl _ z2 _ c' w.heap.size 0 _ arr e appκ_root (by simp [e2]) hge ?_ (heap_new w.drew _) (by omega) (fun k hk => by simp [appγ]) (fun i f r u he hu' => ?_)
   ·intro r hr'
    rcases List.mem_append.1 hr' with h | h
    ·exact e7 r h
    ·exact t2 r h
   ·rw [Nat.zero_add]
    rcases append_get he hu' with ⟨hi, he'⟩ | ⟨j, rfl, he'⟩
    ·obtain ⟨hfz, y, hy1, hy2⟩ := e6 i f r u he' hu'
     have hlt := (List.getElem?_eq_some_iff.1 hy1).1
     have e8 : arr[i * z2 + f]? = some y := by
      rw [harr, Array.getElem?_append_left (by simp; omega), List.getElem?_toArray, List.getElem?_append_left hlt]
      exact hy1
     rw [e8]
     exact hold i f y u hi hy2
    ·obtain ⟨hlt, hfz⟩ := newat j f r u he' hu'
     have e9 : (es.length + j) * z2 + f = n * z2 + (j * z2 + f) := by rw [Nat.add_mul, e2]; omega
     have e8 : arr[(es.length + j) * z2 + f]? = news[j * z2 + f]? := by
      rw [harr, e9, Array.getElem?_append_left (by simp; omega), List.getElem?_toArray, List.getElem?_append_right (by omega), e4]
      congr 1; omega
     rw [e8, List.getElem?_eq_getElem hlt, Option.getD_some, ← hκnew _ _ (List.getElem?_eq_getElem hlt)]
     exact hnew j f r u he' hu'
 have hsl : ∃ base n cap, a.eval s = .slice base n cap := by
  revert hT
  generalize a.eval s = vs
  intro hT
  cases hT with
  | pure _ _ _ h => cases h
  | sl0 => exact ⟨_, _, _, rfl⟩
  | sl => exact ⟨_, _, _, rfl⟩
 obtain ⟨base, n, cap, hvs⟩ := hsl
 rw [hvs] at hT
 generalize hq : Value.slice base n cap = vs at hT
 cases hT with
 | pure p u v h => cases h
 | sl0 p z hk =>
  cases hq
  by_cases hm : es2 = []
  ·subst hm
   have hnews : news = [] := List.eq_nil_of_length_eq_zero (by simpa using t5)
   subst hnews
   have hr0 : (Builtin.append_ #[t, tx] o.type #[.slice none 0 0, a.eval x]).run P w = .ok (.slice none 0 0) w := by
    have hl0 := hSrc'.len
    have hc0 := hSrc'.cells
    simp only [List.length_nil] at hl0 hc0
    simp [Builtin.append_, run_underlying hu, run_underlying hux, sizeOf, typeInfo, i1, hl0, hc0]
   refine fin _ _ (fun _ _ => True) none (by rw [hvs]; exact hr0) (fun _ _ _ _ _ => trivial) (fun _ _ _ _ => by simp) (Keep.refl _ w) (fun _ _ _ => trivial) (by simp) h1.chg (fun _ _ => ?_)
   simpa using TR.sl0 _ _ appκ_root
  ·have hpos : 0 < es2.length := by cases es2 with
    | nil => exact absurd rfl hm
    | cons => simp
   exact grow none 0 0 [] hvs rfl (run_firstCells_none _ _ _ _ _) (by simp) (by simpa using hpos) (by simp) (by simp)
 | sl p z n' c' B o' es' arr T hk hl hn hzz hb' hsz hg hcc =>
  cases hq
  by_cases hroom : n + es2.length ≤ cap
  ·
   have q1 : (n + es2.length) * z2 ≤ cap * z2 := Nat.mul_le_mul_right _ hroom
   rw [Nat.add_mul] at q1
   have hspare : ∀ j, j < news.length → γ2 B (o' + n * z2 + j) = some [(0, L.length)] := by
    intro j hj
    rw [Nat.add_assoc]
    exact hg _ (by omega)
   obtain ⟨r1, arr', r2, r3, r4⟩ := Keep.setCells news (o' + n * z2) w arr hb' (by omega)
   have hr' := run_append_room_src (P := P) w t tx o.type e ie hu i1 B o' n cap (a.eval x) es2.length news hSrc' hroom
    (fun j hj => by rw [i2, cell_of hb']; simp; omega) (fun j hj => by simp [World.frozen?, hb'])
   rw [i2] at hr'
   have hKq : ∀ b o1 q, γ2 b o1 = some q → q ≠ [(0, L.length)] → b ≠ B ∨ o1 < o' + n * z2 ∨ o' + n * z2 + news.length ≤ o1 := by
    intro b o1 q hb1 hq1
    by_cases hh : b ≠ B ∨ o1 < o' + n * z2 ∨ o' + n * z2 + news.length ≤ o1
    ·exact hh
    ·exfalso
     have hbB : b = B := by
      by_cases hbb : b = B
      ·exact hbb
      ·exact absurd (.inl hbb) hh
     subst hbB
     have := hspare (o1 - (o' + n * z2)) (by omega)
     rw [show o' + n * z2 + (o1 - (o' + n * z2)) = o1 by omega, hb1] at this
     cases this; exact hq1 rfl
   have hKA : ∀ b o1, F.A b o1 → b ≠ B ∨ o1 < o' + n * z2 ∨ o' + n * z2 + news.length ≤ o1 := by
    intro b o1 ha1
    by_cases hh : b ≠ B ∨ o1 < o' + n * z2 ∨ o' + n * z2 + news.length ≤ o1
    ·exact hh
    ·exfalso
     have hbB : b = B := by
      by_cases hbb : b = B
      ·exact hbb
      ·exact absurd (.inl hbb) hh
     subst hbB
     have := hspare (o1 - (o' + n * z2)) (by omega)
     rw [show o' + n * z2 + (o1 - (o' + n * z2)) = o1 by omega] at this
     exact hAown _ _ ha1 _ this
   refine fin _ _ _ none (by rw [hvs]; exact hr') hKq (fun _ _ _ _ => by simp) r1 hKA (by simp) ?_ (fun hold hnew => ?_)
   ·refine h1.chg.trans (S' := fun b o1 => ¬ (b ≠ B ∨ o1 < o' + n * z2 ∨ o' + n * z2 + news.length ≤ o1)) ⟨?_, ?_, ?_, ?_⟩ ?_
    ·exact (setCells_rest _ _ _ _).1
    ·exact (setCells_rest _ _ _ _).2.1
    ·exact (setCells_rest _ _ _ _).2.2
    ·exact r1.mono fun b o1 hh => Classical.not_not.1 hh
    ·intro b o1 hh hlt
     have hbB : b = B := by
      by_cases hbb : b = B
      ·exact hbb
      ·exact absurd (.inl hbb) hh
     subst hbB
     have := hspare (o1 - (o' + n * z2)) (by omega)
     rw [show o' + n * z2 + (o1 - (o' + n * z2)) = o1 by omega] at this
     rcases (m1.own _ _ _ this).2 with h | h
     ·exact h
     ·omega
   ·refine .sl _ z2 _ cap B o' _ arr' T appκ_root (by simp [hl]) hroom ?_ r2 (by omega) (fun k hk' => ?_) (fun i f r u he hu' => ?_)
    ·intro r hr'
     rcases List.mem_append.1 hr' with h | h
     ·exact hzz r h
     ·exact t2 r h
    ·simp [appγ, hg k hk']
    ·rcases append_get he hu' with ⟨hi, he'⟩ | ⟨j, rfl, he'⟩
     ·have hfz : f < z2 := by have := (List.getElem?_eq_some_iff.1 hu').1; rw [hzz r (List.mem_of_getElem? he')] at this; exact this
      have hix := ix_lt (n := n) (by omega : i < n) hfz
      obtain ⟨arr2, x1, x2, x3⟩ := r1.cells _ _ _ _ hb'
      rw [r2] at x1; cases x1
      rw [x3 (o' + i * z2 + f) (.inr (.inl (by omega)))]
      exact hold i f _ u hi (hcc i f r u he' hu')
     ·obtain ⟨hlt, hfz⟩ := newat j f r u he' hu'
      have e9 : o' + (es.length + j) * z2 + f = o' + n * z2 + (j * z2 + f) := by rw [Nat.add_mul, hl]; omega
      rw [e9, r4 _ _ (List.getElem?_eq_getElem hlt), Option.getD_some, ← hκnew _ _ (List.getElem?_eq_getElem hlt)]
      exact hnew j f r u he' hu'
  ·have q1 : n * z2 ≤ cap * z2 := Nat.mul_le_mul_right _ hn
   refine grow (some ⟨B, o', none⟩) n cap (cellsAt arr o' (n * z2)) hvs hl.symm ?_ cellsAt_len (by omega) (fun i f r u he hu' => ?_) hzz
   ·rw [i2]
    refine run_firstCells_some w.drew z2 n _ n cap _ cellsAt_len ?_
    intro j v hj
    have := cellsAt_cell (w := w) hb' (by omega : o' + n * z2 ≤ arr.size) j v hj
    simpa using this
   ·have hfz : f < z2 := by have := (List.getElem?_eq_some_iff.1 hu').1; rw [hzz r (List.mem_of_getElem? he)] at this; exact this
    have hi : i < n := by have := (List.getElem?_eq_some_iff.1 he).1; omega
    have hix := ix_lt (n := n) hi hfz
    refine ⟨hfz, (arr[o' + (i * z2 + f)]?).getD undef, ?_, ?_⟩
    ·simp only [cellsAt, List.getElem?_map, List.getElem?_range hix, Option.map_some]
    ·have := hcc i f r u he hu'
     rwa [Nat.add_assoc] at this
end
end Go.Proofs.YtmedelmfkciblaaT


namespace Go.Proofs.YtmedelmfkciblaaT
set_option linter.unusedVariables false
set_option linter.unusedSimpArgs false
open Go
section
variable {P : Program} {F : Fr} {st : St} {w w' w0 : World} {S0 : Nat → Nat → Prop} {κ κ' κ1 : Path → Value} {γ γ' γ1 : Nat → Nat → Option Path} {H H' H1 H2 : Hp} {A A' K : Nat → Nat → Prop} {L : List TV} {o : Oper} {E : Eff} {root : Nat}
theorem bytesT_get : ∀ (es : List (List TV)) (bs : List UInt8), bytesT es = some bs → es.length = bs.length ∧ ∀ j (hj : j < bs.length), ∃ n : Int, es[j]? = some [.i .u8 n] ∧ bs[j] = UInt8.ofNat n.toNat
 | [], bs, h => by
  simp only [bytesT, Option.some.injEq] at h; subst h
  exact ⟨rfl, fun j hj => absurd hj (by simp)⟩
 | e :: es, bs, h => by
  unfold bytesT at h
  split at h
  ·rename_i heq; cases heq
  ·rename_i n rest heq
   cases heq
   simp only [Option.bind_eq_some_iff, Option.some.injEq] at h
   obtain ⟨bs', h1, rfl⟩ := h
   obtain ⟨g1, g2⟩ := bytesT_get es bs' h1
   refine ⟨by simp [g1], fun j hj => ?_⟩
   cases j with
   | zero => exact ⟨n, rfl, rfl⟩
   | succ j => simpa using g2 j (by simpa using hj)
  ·cases h
theorem foldl_push_ofNat : ∀ (ns : List Int) (s : ByteArray), (ns.foldl (fun r n => r.push (UInt8.ofNat n.toNat)) s).data = s.data ++ (ns.map fun n => UInt8.ofNat n.toNat).toArray
 | [], s => by simp
 | n :: ns, s => by
  simp only [List.foldl_cons]
  rw [foldl_push_ofNat ns]
  simp [ByteArray.push]
theorem run_bytes {src dst e : TypeId} {a : Option Addr} {l c : Nat} {ns : List Int} (hs : P.underlying src = some (.slice e)) (he : P.underlying e = some (.int .u8)) (hd : P.underlying dst = some .string)
  (hl : l = ns.length) (hc : a = none ∧ l = 0 ∨ ∃ ad, a = some ad ∧ ∀ j (hj : j < ns.length), w.cell? (ad.add j) = some (.int .u8 ns[j])) :
  (convert src dst (.slice a l c)).run P w = .ok (.string ⟨(ns.map fun n => UInt8.ofNat n.toNat).toArray⟩) w := by
 rw [run_convert_bytes_string w src dst e a l c hs he hd]
 rcases hc with ⟨rfl, rfl⟩ | ⟨ad, rfl, hc⟩
 ·have : ns = [] := List.eq_nil_of_length_eq_zero hl.symm
  subst this
  simp [Conv.bytesToString]
  rfl
 ·have h2 := run_loadCells_list (P := P) w ad (ns.map (Value.int .u8)) (fun j v hj => by
   have hj' : j < ns.length := by
    have := (List.getElem?_eq_some_iff.1 hj).1
    simpa using this
   rw [hc j hj']
   simp [List.getElem?_eq_getElem hj'] at hj
   rw [← hj])
  simp only [List.length_map] at h2
  rw [hl, run_bytesToString w ad ns.length c ns h2]
  congr 2
  have := foldl_push_ofNat ns ByteArray.empty
  have e0 : ByteArray.empty.data = #[] := rfl
  rw [e0] at this
  simp only [Array.empty_append] at this
  rw [← this]
def byteOf : Option (List TV) → Int
 | some [.i .u8 n] => n
 | _ => 0
theorem rr_i {k : IntKind} {n : Int} {v : Value} (h : RR w A (.i k n) v) : v = .int k n := by cases h; rfl
theorem good_toS {s d e : TypeId} {x : Operand} {x' : TOpd} {tx : TypeId} (hop : o.op = .convert s d x) (hs : P.underlying s = some (.slice e)) (he : P.underlying e = some (.int .u8)) (hdd : P.underlying d = some .string) (hx : compOpd P tx x = some x')
  (hd : ∀ d, o.dst = some d → d < F.N) (hE : opW P st root (.toS x') (· = E)) : Good P F o st E := by
 simp only [opW] at hE
 split at hE
 case h_2 => exact hE.elim
 rename_i bs hb
 subst hE
 simp only [Option.bind_eq_some_iff] at hb
 obtain ⟨es, h1, h2⟩ := hb
 obtain ⟨g1, g2⟩ := bytesT_get es bs h2
 refine good_val hd fun a w κ γ hh ht => ?_
 have hxv := opd_rv (P := P) hx ht
 have hz1 : ∀ (es : List (List TV)) (bs : List UInt8), bytesT es = some bs → ∀ e ∈ es, e.length = 1 := by
  intro es bs hb e he
  obtain ⟨q1, q2⟩ := bytesT_get es bs hb
  obtain ⟨j, hj⟩ := List.getElem?_of_mem he
  have hlt : j < bs.length := by have := (List.getElem?_eq_some_iff.1 hj).1; omega
  obtain ⟨n, hn, _⟩ := q2 j hlt
  rw [hn] at hj; cases hj; rfl
 have key : ∃ (ad : Option Addr) (l c : Nat) (ns : List Int), a.eval x = .slice ad l c ∧ l = ns.length ∧ bs = ns.map (fun n : Int => UInt8.ofNat n.toNat) ∧ (ad = none ∧ l = 0 ∨ ∃ ad', ad = some ad' ∧ ∀ j (hj : j < ns.length), w.cell? (ad'.add j) = some (.int .u8 ns[j])) := by
  have ns_of : ∃ ns : List Int, ns.length = bs.length ∧ ∀ j (hj : j < ns.length), es[j]? = some [.i .u8 ns[j]] ∧ bs[j]? = some (UInt8.ofNat (ns[j]).toNat) := by
   refine ⟨(List.range bs.length).map fun j => byteOf es[j]?, by simp, fun j hj => ?_⟩
   simp only [List.length_map, List.length_range] at hj
   obtain ⟨n, q1, q2⟩ := g2 j hj
   have e1 : ((List.range bs.length).map fun j => byteOf es[j]?)[j]'(by simpa using hj) = n := by simp [q1, byteOf]
   rw [e1]
   exact ⟨q1, by rw [List.getElem?_eq_getElem hj, q2]⟩
  obtain ⟨ns, n1, n2⟩ := ns_of
  have hbs : bs = ns.map (fun n : Int => UInt8.ofNat n.toNat) := by
   refine List.ext_getElem? fun j => ?_
   rw [List.getElem?_map]
   rcases Nat.lt_or_ge j ns.length with hj | hj
   ·rw [(n2 j hj).2, List.getElem?_eq_getElem hj]; rfl
   ·rw [List.getElem?_eq_none (by omega), List.getElem?_eq_none hj]; rfl
  generalize x'.ev st = u at h1 hxv
  generalize a.eval x = v at hxv
  unfold elemsOf at h1
  split at h1
  ·rename_i z es0
   simp only [Option.some.injEq] at h1; subst h1
   cases hxv with
   | pure u v hr =>
    cases hr with
    | sl0 z => exact ⟨none, 0, 0, ns, rfl, by simp at g1; omega, hbs, .inl ⟨rfl, rfl⟩⟩
    | sle z c a => exact ⟨some a, 0, c, ns, rfl, by simp at g1; omega, hbs, .inr ⟨a, rfl, fun j hj => absurd hj (by simp at g1; omega)⟩⟩
    | sl z n c B o' es arr T fz hl hn hz hbk hsz hA hc =>
     refine ⟨_, n, c, ns, rfl, by omega, hbs, .inr ⟨_, rfl, fun j hj => ?_⟩⟩
     obtain ⟨q1, q2⟩ := n2 j hj
     have hz' : z = 1 := by rw [← hz _ (List.mem_of_getElem? q1)]; rfl
     subst hz'
     have := rr_i (hc j 0 _ _ q1 rfl)
     rw [add_mid, cell_of hbk]
     have hlt : o' + j < arr.size := by omega
     rw [show o' + j * 1 + 0 = o' + j by omega, Array.getElem?_eq_getElem hlt] at this
     rw [Array.getElem?_eq_getElem hlt, ← this]; rfl
  ·simp only [Option.some.injEq] at h1; subst h1
   cases hxv with
   | pure u v h => cases h
   | nil z => exact ⟨none, 0, 0, ns, rfl, by simp at g1; omega, hbs, .inl ⟨rfl, rfl⟩⟩
  ·rename_i p off len
   split at h1
   case h_2 => cases h1
   rename_i z es0 hcell
   simp only [Option.some.injEq] at h1; subst h1
   obtain ⟨o1, o2, o3⟩ := own_elems hh hxv hcell
   have hlen : ((es0.drop off).take len).length = len := by
    rw [List.length_take, List.length_drop]; rcases o2 with o2 | o2 <;> omega
   rcases o3 with ⟨rfl, rfl⟩ | ⟨B, o', c1, arr, T, rfl, b1, b2, b3⟩
   ·exact ⟨none, 0, 0, ns, rfl, by omega, hbs, .inl ⟨rfl, rfl⟩⟩
   ·refine ⟨_, len, c1, ns, rfl, by omega, hbs, .inr ⟨_, rfl, fun j hj => ?_⟩⟩
    obtain ⟨q1, q2⟩ := n2 j hj
    obtain ⟨q3, q4⟩ := drop_take_get q1
    have hz' : z = 1 := by rw [← o1 _ (List.mem_of_getElem? q4)]; rfl
    subst hz'
    have := rr_i ((b3 j 0 _ _ q3 q4 rfl).pure_of rfl)
    rw [add_mid, cell_of b1]
    have hlt : o' + j < arr.size := by omega
    rw [show o' + (j * 1 + 0) = o' + j by omega, Array.getElem?_eq_getElem hlt] at this
    rw [Array.getElem?_eq_getElem hlt, ← this]; rfl
  ·cases h1
 obtain ⟨ad, l, c, ns, k1, k2, k3, k4⟩ := key
 refine ⟨.string ⟨bs.toArray⟩, w, ?_, .refl w, .pure _ _ (.s _)⟩
 simp only [execOp, hop, k1, Sem.run_bind, run_bytes hs he hdd k2 k4, Result.andThen_ok, Sem.run_pure, k3]
theorem eqT_run {k : EK} {d : Nat} {t : TypeId} {u u' : TV} {v v' : Value} {r : Bool} (hb : ekOf P t = some k) (hu : RV w κ H A u v) (hu' : RV w κ H A u' v') (he : eqT k u u' = some r) :
  (Op.equalIn (d + 1) t v v').run P w = .ok r w := by
 unfold eqT at he
 split at he
 ·have h1 := rv_b hu; have h2 := rv_b hu'
  subst h1; subst h2
  simp only [Option.some.injEq] at he; subst he
  have ht : P.underlying t = some .bool := by
   unfold ekOf at hb
   split at hb <;> first | assumption | cases hb
  simp [Op.equalIn, run_underlying ht]
 ·have h1 := rv_i hu; have h2 := rv_i hu'
  subst h1; subst h2
  split at he
  case isFalse => cases he
  rename_i hk
  subst hk
  simp only [Option.some.injEq] at he; subst he
  have ht : ∃ k', P.underlying t = some (.int k') := by
   unfold ekOf at hb
   split at hb <;> first | exact ⟨_, by assumption⟩ | cases hb
  obtain ⟨k', ht⟩ := ht
  simp [Op.equalIn, run_underlying ht]
 ·have h1 := rv_s hu; have h2 := rv_s hu'
  subst h1; subst h2
  simp only [Option.some.injEq] at he; subst he
  have ht : P.underlying t = some .string := by
   unfold ekOf at hb
   split at hb <;> first | assumption | cases hb
  simp [Op.equalIn, run_underlying ht, beq_toListBytes]
 ·obtain ⟨y1, h1, c1⟩ := rv_f hu; obtain ⟨y2, h2, c2⟩ := rv_f hu'
  subst h1; subst h2
  simp only [Option.some.injEq] at he; subst he
  have ht : P.underlying t = some (.float .f64) := by
   unfold ekOf at hb
   split at hb <;> first | assumption | cases hb
  rw [← c1, ← c2, order_canon]
  simp [Op.equalIn, run_underlying ht, Op.floatEq]
 ·cases he
theorem eqL_run {d : Nat} {xs ys : Array Value} : ∀ (fs : List Field) (i : Nat) (ks : List EK) (us us' : List TV) (r : Bool), optAll (fs.map fun f => ekOf P f.type) = some ks →
  ((fs.zipIdx i).all fun (f, i) => f.name != "_" && f.offset == i) = true →
  (∀ (j : Nat) (u : TV), us[j]? = some u → ∃ v, xs[i + j]? = some v ∧ RV w κ H A u v) → (∀ (j : Nat) (u : TV), us'[j]? = some u → ∃ v, ys[i + j]? = some v ∧ RV w κ H A u v) → eqL ks us us' = some r →
  (Op.eqFields (d + 1) xs ys fs).run P w = .ok r w
 | [], i, ks, us, us', r, hk, hf, hx, hy, he => by
  simp only [List.map_nil, optAll, Option.some.injEq] at hk; subst hk
  cases us <;> cases us' <;> simp [eqL] at he
  subst he
  rfl
 | f :: fs, i, ks, us, us', r, hk, hf, hx, hy, he => by
  simp only [List.map_cons, optAll, Option.bind_eq_some_iff, Option.some.injEq] at hk
  obtain ⟨k, hk1, ks', hk2, rfl⟩ := hk
  simp only [List.zipIdx_cons, List.all_cons, Bool.and_eq_true, bne_iff_ne, ne_eq, beq_iff_eq] at hf
  obtain ⟨⟨hf1, hf2⟩, hf3⟩ := hf
  cases us with
  | nil => simp [eqL] at he
  | cons u us =>
   cases us' with
   | nil => simp [eqL] at he
   | cons u' us' =>
    simp only [eqL, Option.bind_eq_some_iff, Option.some.injEq] at he
    obtain ⟨r1, he1, r2, he2, rfl⟩ := he
    obtain ⟨v, q1, q2⟩ := hx 0 u rfl
    obtain ⟨v', q3, q4⟩ := hy 0 u' rfl
    have hagg : (isAgg f.type).run P w = .ok false w := by
     refine run_agg w ?_
     unfold ekOf at hk1
     simp only [tyAgg]
     cases hu : P.underlying f.type with
     | none => simp [hu] at hk1
     | some d => cases d <;> simp_all
    have hp : ∀ (zs : Array Value) (v : Value), zs[i]? = some v → (part f.type zs f.offset).run P w = .ok v w := by
     intro zs v hz
     unfold part
     simp only [Sem.run_bind, hagg, Result.andThen_ok, hf2, hz]
     simp
    have hrec := eqL_run (d := d) fs (i + 1) ks' us us' r2 hk2 (by simpa using hf3)
     (fun j u hj => by have := hx (j + 1) u (by simpa using hj); rwa [show i + (j + 1) = i + 1 + j by omega] at this)
     (fun j u hj => by have := hy (j + 1) u (by simpa using hj); rwa [show i + (j + 1) = i + 1 + j by omega] at this) he2
    simp only [Op.eqFields, ne_eq, hf1, not_false_eq_true, if_true, Sem.run_bind, hp xs v (by simpa using q1), hp ys v' (by simpa using q3), Result.andThen_ok, eqT_run hk1 q2 q4 he1]
    cases r1 with
    | false => simp
    | true => simpa using hrec
theorem eqT_b {u u' : TV} {r : Bool} (he : eqT .b u u' = some r) : ∃ b1 b2, u = .b b1 ∧ u' = .b b2 := by
 cases u <;> first | (simp [eqT] at he; done) | (cases u' <;> first | (simp [eqT] at he; done) | exact ⟨_, _, rfl, rfl⟩)
theorem good_eqb {neg : Bool} {op : BinOp} {x y : Operand} {x' y' : TOpd} {t u tx ty : TypeId} (hop : o.op = .binOp op t x y u) (ho : op = if neg then .neq else .eql) (hk : P.underlying t = some .bool) (hx : compOpd P tx x = some x') (hy : compOpd P ty y = some y')
  (hd : ∀ d, o.dst = some d → d < F.N) (hE : opW P st root (.eqs neg false [.b] x' y') (· = E)) : Good P F o st E := by
 simp only [opW] at hE
 split at hE
 case h_2 => exact hE.elim
 rename_i r hr
 obtain ⟨a1, a2, rfl⟩ := hE
 refine good_val hd fun a w κ γ hh ht => ?_
 have hxv := opd_rv hx ht
 have hyv := opd_rv hy ht
 rw [notAg_cells a1, notAg_cells a2] at hr
 simp only [eqL, Option.bind_eq_some_iff, Option.some.injEq] at hr
 obtain ⟨r1, he1, r2, rfl, rfl⟩ := hr
 have hrun := fun d => eqT_run (P := P) (d := d) (t := t) (by simp [ekOf, hk]) hxv hyv he1
 have hb : ∃ b1 b2, a.eval x = .bool b1 ∧ a.eval y = .bool b2 := by
  obtain ⟨b1, b2, q1, q2⟩ := eqT_b he1
  rw [q1] at hxv; rw [q2] at hyv
  exact ⟨_, _, rv_b hxv, rv_b hyv⟩
 obtain ⟨b1, b2, e1, e2⟩ := hb
 have hq : (eqGuard op t x y (a.eval x) (a.eval y)).run P w = .ok () w := guard_quiet (.inr (.inr (.inr (.inl ⟨_, e1⟩))))
 rw [e1, e2] at hrun hq
 refine ⟨.bool (r1 ^^ neg), w, ?_, .refl w, by simpa using RV.pure _ _ (.b (r1 ^^ neg))⟩
 simp only [execOp, hop, e1, e2, Sem.run_bind, hq, Result.andThen_ok]
 subst ho
 cases neg
 ·simp only [Bool.false_eq_true, if_false, binOp, Op.equal, Op.maxDepth, Sem.run_bind, hrun 9999, Result.andThen_ok, Sem.run_pure]; simp
 ·simp only [if_true, binOp, Op.equal, Op.maxDepth, Sem.run_bind, hrun 9999, Result.andThen_ok, Sem.run_pure]; simp
theorem good_eqst {neg : Bool} {op : BinOp} {x y : Operand} {x' y' : TOpd} {t u tx ty : TypeId} {ks : List EK} (hop : o.op = .binOp op t x y u) (ho : op = if neg then .neq else .eql) (hk : flatEq P t = some ks) (hx : compOpd P tx x = some x') (hy : compOpd P ty y = some y')
  (hd : ∀ d, o.dst = some d → d < F.N) (hE : opW P st root (.eqs neg true ks x' y') (· = E)) : Good P F o st E := by
 simp only [opW] at hE
 split at hE
 case h_2 => exact hE.elim
 rename_i r hr
 obtain ⟨a1, a2, rfl⟩ := hE
 refine good_val hd fun a w κ γ hh ht => ?_
 have hxv := opd_rv hx ht
 have hyv := opd_rv hy ht
 have agof : ∀ u : TV, isAg u = true → ∃ cs, u = .ag cs := by intro u h; cases u <;> first | exact ⟨_, rfl⟩ | cases h
 obtain ⟨us, hus⟩ := agof _ a1
 obtain ⟨us', hus'⟩ := agof _ a2
 rw [hus] at hxv hr; rw [hus'] at hyv hr
 obtain ⟨xs, e1, l1, c1⟩ := rv_ag hxv
 obtain ⟨ys, e2, l2, c2⟩ := rv_ag hyv
 unfold flatEq at hk
 split at hk
 case h_2 => cases hk
 rename_i fs hfs
 split at hk
 case isFalse => cases hk
 rename_i hcond
 simp only [Bool.and_eq_true, Bool.not_eq_true'] at hcond
 obtain ⟨⟨k1, k2⟩, k3⟩ := hcond
 have hfo : P.fieldsOf t = fs := by simp [Program.fieldsOf, hfs]
 have hrun : (Op.equalIn 10000 t (.agg xs) (.agg ys)).run P w = .ok r w := by
  rw [show (10000 : Nat) = 9998 + 1 + 1 from rfl, run_equalIn_agg w _ t xs ys (by rw [hfo]; exact hfs) k1, hfo]
  refine eqL_run (κ := κ) (H := st.H) (A := F.A) fs.toList 0 ks us us' r hk k3 (fun j u hj => ?_) (fun j u hj => ?_) (by simpa [cellsT] using hr)
  ·have hlt : j < xs.size := by have := (List.getElem?_eq_some_iff.1 hj).1; omega
   have := c1 j u hj
   refine ⟨xs[j], by simp [hlt], by simpa [hlt] using this⟩
  ·have hlt : j < ys.size := by have := (List.getElem?_eq_some_iff.1 hj).1; omega
   have := c2 j u hj
   refine ⟨ys[j], by simp [hlt], by simpa [hlt] using this⟩
 have hq : (eqGuard op t x y (a.eval x) (a.eval y)).run P w = .ok () w := by
  rw [e1, e2]; exact run_eqGuard_agg w op t x y xs ys k2
 refine ⟨.bool (r ^^ neg), w, ?_, .refl w, .pure _ _ (.b _)⟩
 rw [e1, e2] at hq
 simp only [execOp, hop, e1, e2, Sem.run_bind, hq, Result.andThen_ok]
 subst ho
 cases neg
 ·simp only [Bool.false_eq_true, if_false, run_eql_struct, hrun, Result.andThen_ok, Sem.run_pure]; simp
 ·simp only [if_true, run_neq_struct, hrun, Result.andThen_ok, Sem.run_pure]; simp
end
end Go.Proofs.YtmedelmfkciblaaT


namespace Go.Proofs.YtmedelmfkciblaaT
set_option linter.unusedVariables false
set_option linter.unusedSimpArgs false
open Go
section
variable {P : Program} {F : Fr} {st : St} {o : Oper} {E : Eff} {root : Nat}
theorem optAll_get {α : Type} : ∀ (l : List (Option α)) (r : List α), optAll l = some r → r.length = l.length ∧ ∀ (j : Nat) (x : α), r[j]? = some x → l[j]? = some (some x)
 | [], r, h => by simp only [optAll, Option.some.injEq] at h; subst h; simp
 | x :: l, r, h => by
  simp only [optAll, Option.bind_eq_some_iff, Option.some.injEq] at h
  obtain ⟨a, rfl, r', h1, rfl⟩ := h
  obtain ⟨g1, g2⟩ := optAll_get l r' h1
  refine ⟨by simp [g1], fun j y hj => ?_⟩
  cases j with
  | zero => simp at hj; subst hj; rfl
  | succ j => simpa using g2 j y (by simpa using hj)
theorem tyElem_spec {t e : TypeId} (h : tyElem P t = some e) : P.underlying t = some (.slice e) := by
 simp only [tyElem, Option.bind_eq_some_iff] at h
 obtain ⟨d, h1, h2⟩ := h
 cases d <;> simp at h2
 subst h2; exact h1
theorem optOpd {t : TypeId} {lo : Option Operand} {lo' : Option TOpd} (h : (match lo with | none => some none | some y => (compOpd P t y).bind fun y => some (some y)) = some lo') :
  (lo = none ∧ lo' = none) ∨ ∃ x x', lo = some x ∧ lo' = some x' ∧ compOpd P t x = some x' := by
 cases lo with
 | none => simp only [Option.some.injEq] at h; exact .inl ⟨rfl, h.symm⟩
 | some y =>
  simp only [Option.bind_eq_some_iff, Option.some.injEq] at h
  obtain ⟨y', h1, h2⟩ := h
  exact .inr ⟨y, y', rfl, h2.symm, h1⟩
theorem callArgs {c : Call} {as : List (TOpd × Nat)} (h : optAll ((c.args.toList.zip c.argTypes.toList).map fun (x, t) => (compOpd P t x).bind fun y => some (y, tyPtr P t)) = some as) (hs : c.args.size = c.argTypes.size) :
  as.length = c.args.size ∧ ∀ (j : Nat) (x : TOpd) (n : Nat), as[j]? = some (x, n) → ∃ y t, c.args[j]? = some y ∧ compOpd P t y = some x := by
 obtain ⟨g1, g2⟩ := optAll_get _ _ h
 refine ⟨by rw [g1]; simp [hs], fun j x n hj => ?_⟩
 have := g2 j (x, n) hj
 rw [List.getElem?_map] at this
 cases hz : (c.args.toList.zip c.argTypes.toList)[j]? with
 | none => simp [hz] at this
 | some p =>
  obtain ⟨y, t⟩ := p
  simp only [hz, Option.map_some, Option.some.injEq, Option.bind_eq_some_iff, Prod.mk.injEq] at this
  obtain ⟨y', q1, rfl, _⟩ := this
  obtain ⟨z1, z2⟩ := List.getElem?_zip_eq_some.1 hz
  exact ⟨y, t, by simpa using z1, q1⟩
theorem allGood_call (c : Call) (hop : o.op = .call c) (to : TOp) (hc : compOp0 P o = some to) (hd : ∀ d, o.dst = some d → d < F.N) (hE : opW P st root to (· = E)) : Good P F o st E := by
 simp only [compOp0, hop] at hc
 split at hc
 ·rename_i hcal
  split at hc
  case h_2 => cases hc
  rename_i x t ha hat
  split at hc
  ·rename_i hu
   simp only [Option.bind_eq_some_iff, Option.some.injEq] at hc
   obtain ⟨x', h1, rfl⟩ := hc
   exact good_len hop hcal ha hat (by simpa using hu) h1 hd hE
  ·rename_i e hu
   simp only [Option.bind_eq_some_iff, Option.some.injEq] at hc
   obtain ⟨x', h1, rfl⟩ := hc
   exact good_len hop hcal ha hat (by simpa using ⟨_, hu⟩) h1 hd hE
  ·cases hc
 ·rename_i hcal
  split at hc
  case h_2 => cases hc
  rename_i s x t u ha hat
  simp only [Option.bind_eq_some_iff] at hc
  obtain ⟨e, h1, z, h2, b, h3, s', h4, x', h5, hc⟩ := hc
  split at hc
  case isFalse => cases hc
  rename_i hcond
  simp only [Option.some.injEq] at hc; subst hc
  simp only [Bool.and_eq_true, bne_iff_ne, ne_eq, beq_iff_eq, Option.map_eq_some_iff] at hcond
  obtain ⟨⟨⟨c1, c2⟩, c3⟩, zc, c4, c5⟩ := hcond
  obtain ⟨ex, c3⟩ := Option.isSome_iff_exists.1 c3
  exact good_app hop hcal ha hat (tyElem_spec h1) (tyElem_spec c3) h2 h3 c4 c5 c1 c2 h4 h5 hd hE
 ·rename_i hcal
  split at hc
  case h_2 => cases hc
  rename_i x y ha
  simp only [Option.bind_eq_some_iff, Option.some.injEq] at hc
  obtain ⟨x', h1, y', h2, rfl⟩ := hc
  exact good_maxi hop hcal ha h1 h2 hd hE
 ·rename_i f hcal
  simp only [Option.bind_eq_some_iff] at hc
  obtain ⟨as, h1, hc⟩ := hc
  split at hc
  case isTrue => cases hc
  rename_i hsz
  obtain ⟨g1, g2⟩ := callArgs h1 (by simpa using hsz)
  split at hc
  ·rename_i g
   split at hc
   case isFalse => cases hc
   rename_i hg
   simp only [Option.some.injEq] at hc; subst hc
   exact good_call hop hcal hg g1 g2 hd hE
  ·simp only [Option.some.injEq] at hc; subst hc
   exact good_callv (ty := 0) hop hcal rfl g1 g2 hd hE
  ·cases hc
 ·cases hc
theorem allGood0 (F : Fr) (o : Oper) (to : TOp) (st : St) (root : Nat) (E : Eff) (hc : compOp0 P o = some to) (hd : ∀ d, o.dst = some d → d < F.N) (hE : opW P st root to (· = E)) : Good P F o st E := by
 cases hop : o.op with
 | move x =>
  simp only [compOp0, hop, Option.bind_eq_some_iff, Option.some.injEq] at hc
  obtain ⟨x', h1, rfl⟩ := hc
  exact good_mv (.inl hop) h1 hd hE
 | assign x =>
  simp only [compOp0, hop, Option.bind_eq_some_iff, Option.some.injEq] at hc
  obtain ⟨x', h1, rfl⟩ := hc
  exact good_mv (.inr hop) h1 hd hE
 | pick c x y =>
  simp only [compOp0, hop, Option.bind_eq_some_iff, Option.some.injEq] at hc
  obtain ⟨c', h0, x', h1, y', h2, rfl⟩ := hc
  exact good_pick hop h0 h1 h2 hd hE
 | alloc e =>
  simp only [compOp0, hop, Option.bind_eq_some_iff, Option.some.injEq] at hc
  obtain ⟨zv, h0, u, h1, rfl⟩ := hc
  exact good_alloc hop h0 h1 hd hE
 | box e x =>
  simp only [compOp0, hop, Option.bind_eq_some_iff, Option.some.injEq] at hc
  obtain ⟨n, h0, x', h1, rfl⟩ := hc
  exact good_boxop hop h1 hd hE
 | build t ps =>
  simp only [compOp0, hop] at hc
  split at hc
  case h_2 => cases hc
  rename_i fs hfs
  simp only [Option.bind_eq_some_iff] at hc
  obtain ⟨zv, h0, u, h1, ps', h2, hc⟩ := hc
  split at hc
  case isFalse => cases hc
  rename_i hcond
  simp only [Option.some.injEq] at hc; subst hc
  simp only [Bool.and_eq_true, List.all_eq_true] at hcond
  obtain ⟨g1, g2⟩ := optAll_get _ _ h2
  refine good_build hop hfs h0 h1 hcond.1 hcond.2 (by rw [g1]; simp) (fun j off n x hj => ?_) hd hE
  have := g2 j _ hj
  rw [List.getElem?_map] at this
  cases hz : ps.toList[j]? with
  | none => simp [hz] at this
  | some p =>
   obtain ⟨i, y⟩ := p
   simp only [hz, Option.map_some, Option.some.injEq, Option.bind_eq_some_iff, Prod.mk.injEq] at this
   obtain ⟨f, q1, n', q2, y', q3, rfl, rfl, rfl⟩ := this
   exact ⟨i, y, f, _, by simpa using hz, q1, rfl, q2, q3⟩
 | buildSlice t len ps =>
  simp only [compOp0, hop, Option.bind_eq_some_iff] at hc
  obtain ⟨e, h0, z, h1, zv, h2, u, h3, ps', h4, hc⟩ := hc
  split at hc
  case isFalse => cases hc
  rename_i hcond
  simp only [Option.some.injEq] at hc; subst hc
  simp only [Bool.and_eq_true, decide_eq_true_eq, bne_iff_ne, ne_eq, beq_iff_eq, List.all_eq_true] at hcond
  obtain ⟨⟨⟨c1, c2⟩, c3⟩, c4⟩ := hcond
  obtain ⟨g1, g2⟩ := optAll_get _ _ h4
  refine good_bslice hop (tyElem_spec h0) h1 h2 h3 c1 c2 c3 c4 (by rw [g1]; simp) (fun j i x hj => ?_) hd hE
  have := g2 j _ hj
  rw [List.getElem?_map] at this
  cases hz : ps.toList[j]? with
  | none => simp [hz] at this
  | some p =>
   obtain ⟨i', y⟩ := p
   simp only [hz, Option.map_some, Option.some.injEq, Option.bind_eq_some_iff, Prod.mk.injEq] at this
   obtain ⟨y', q3, rfl, rfl⟩ := this
   exact ⟨y, _, by simpa using hz, q3⟩
 | load t x =>
  simp only [compOp0, hop, Option.bind_eq_some_iff] at hc
  obtain ⟨g, h0, n, h1, x', h2, hc⟩ := hc
  split at hc
  case isFalse => cases hc
  simp only [Option.some.injEq] at hc; subst hc
  exact good_load hop h0 h1 h2 hd hE
 | store t x y =>
  simp only [compOp0, hop, Option.bind_eq_some_iff, Option.some.injEq] at hc
  obtain ⟨n, h0, x', h1, y', h2, rfl⟩ := hc
  exact good_store hop h0 h1 h2 hd hE
 | nilCheck x =>
  simp only [compOp0, hop, Option.bind_eq_some_iff, Option.some.injEq] at hc
  obtain ⟨x', h1, rfl⟩ := hc
  exact good_nilck hop h1 hd hE
 | binOp op t x y u =>
  simp only [compOp0, hop] at hc
  split at hc
  ·simp only [Option.bind_eq_some_iff, Option.some.injEq] at hc
   obtain ⟨x', h1, y', h2, rfl⟩ := hc
   exact good_bin hop h1 h2 hd hE
  ·simp only [Option.bind_eq_some_iff, Option.some.injEq] at hc
   obtain ⟨x', h1, y', h2, rfl⟩ := hc
   exact good_bin hop h1 h2 hd hE
  ·simp only [Option.bind_eq_some_iff, Option.some.injEq] at hc
   obtain ⟨x', h1, y', h2, rfl⟩ := hc
   exact good_bin hop h1 h2 hd hE
  ·rename_i hu
   simp only [Option.bind_eq_some_iff] at hc
   obtain ⟨x', h1, y', h2, hc⟩ := hc
   split at hc
   ·simp only [Option.some.injEq] at hc; subst hc
    exact good_eqb (neg := false) hop rfl hu h1 h2 hd hE
   ·simp only [Option.some.injEq] at hc; subst hc
    exact good_eqb (neg := true) hop rfl hu h1 h2 hd hE
   ·cases hc
  ·rename_i fs hu
   simp only [Option.bind_eq_some_iff] at hc
   obtain ⟨ks, h0, x', h1, y', h2, hc⟩ := hc
   split at hc
   ·simp only [Option.some.injEq] at hc; subst hc
    exact good_eqst (neg := false) hop rfl h0 h1 h2 hd hE
   ·simp only [Option.some.injEq] at hc; subst hc
    exact good_eqst (neg := true) hop rfl h0 h1 h2 hd hE
   ·cases hc
  ·rename_i e hu
   simp only [Option.bind_eq_some_iff] at hc
   obtain ⟨x', h1, y', h2, hc⟩ := hc
   split at hc
   ·simp only [Option.some.injEq] at hc; subst hc
    exact good_eqp (neg := false) hop rfl hu h1 h2 hd hE
   ·simp only [Option.some.injEq] at hc; subst hc
    exact good_eqp (neg := true) hop rfl hu h1 h2 hd hE
   ·cases hc
  ·cases hc
 | unOp op t x =>
  simp only [compOp0, hop, Option.bind_eq_some_iff, Option.some.injEq] at hc
  obtain ⟨x', h1, rfl⟩ := hc
  exact good_un hop h1 hd hE
 | convert s d x =>
  simp only [compOp0, hop, Option.bind_eq_some_iff] at hc
  obtain ⟨us, h0, hc⟩ := hc
  split at hc
  ·rename_i k hk
   simp only [Option.bind_eq_some_iff, Option.some.injEq] at hc
   obtain ⟨x', h1, rfl⟩ := hc
   exact good_toInt hop hk (by rw [h0]; rfl) h1 hd hE
  ·rename_i hk
   simp only [Option.bind_eq_some_iff, Option.some.injEq] at hc
   obtain ⟨x', h1, rfl⟩ := hc
   exact good_toF hop hk (by rw [h0]; rfl) h1 hd hE
  ·rename_i hk
   split at hc
   case h_2 => cases hc
   rename_i e
   split at hc
   case h_2 => cases hc
   rename_i he
   simp only [Option.bind_eq_some_iff, Option.some.injEq] at hc
   obtain ⟨x', h1, rfl⟩ := hc
   exact good_toS hop h0 he hk h1 hd hE
  ·cases hc
 | makeFunc fn first caps =>
  cases fn with
  | func g =>
   simp only [compOp0, hop] at hc
   split at hc
   case isFalse => cases hc
   rename_i hf
   simp only [Option.bind_eq_some_iff, Option.some.injEq] at hc
   obtain ⟨cs, h1, rfl⟩ := hc
   obtain ⟨g1, g2⟩ := optAll_get _ _ h1
   refine good_mkfn hop hf (by rw [g1]; simp) (fun j x hj => ?_) hd hE
   have := g2 j x hj
   rw [List.getElem?_map] at this
   cases hz : caps.toList[j]? with
   | none => simp [hz] at this
   | some y =>
    simp only [hz, Option.map_some, Option.some.injEq] at this
    exact ⟨y, _, by simpa using hz, this⟩
  | _ => simp [compOp0, hop] at hc
 | makeSlice t l c =>
  simp only [compOp0, hop, Option.bind_eq_some_iff] at hc
  obtain ⟨e, h0, z, h1, b, h2, zv, h3, u, h4, l', h5, c', h6, hc⟩ := hc
  split at hc
  case isFalse => cases hc
  rename_i hcond
  simp only [Option.some.injEq] at hc; subst hc
  simp only [Bool.and_eq_true, bne_iff_ne, ne_eq, beq_iff_eq] at hcond
  obtain ⟨⟨c1, c2⟩, c3⟩ := hcond
  exact good_mkslice hop (tyElem_spec h0) h1 h2 h3 h4 c1 c2 c3 h5 h6 hd hE
 | slice t x lo hi mx =>
  cases mx with
  | some m => simp [compOp0, hop] at hc
  | none =>
   simp only [compOp0, hop] at hc
   split at hc
   ·rename_i hu
    simp only [Option.bind_eq_some_iff, Option.some.injEq] at hc
    obtain ⟨sz, rfl, x', h1, lo', h2, hi', h3, rfl⟩ := hc
    exact good_slice hop (by simpa using hu) h1 (optOpd h2) (optOpd h3) hd hE
   ·rename_i e hu
    simp only [Option.bind_eq_some_iff, Option.some.injEq] at hc
    obtain ⟨sz, ⟨z, h0, rfl⟩, x', h1, lo', h2, hi', h3, rfl⟩ := hc
    exact good_slice hop (by simpa using ⟨e, hu, h0⟩) h1 (optOpd h2) (optOpd h3) hd hE
   ·simp at hc
 | fieldAddr s x k =>
  simp only [compOp0, hop] at hc
  split at hc
  case h_2 => cases hc
  rename_i fs hfs
  simp only [Option.bind_eq_some_iff] at hc
  obtain ⟨f, h0, n, h1, x', h2, hc⟩ := hc
  split at hc
  case isFalse => cases hc
  rename_i hn
  simp only [Option.some.injEq] at hc; subst hc
  exact good_faddr hop hfs h0 h1 (by simpa using hn) h2 hd hE
 | field s x k =>
  simp only [compOp0, hop] at hc
  split at hc
  case h_2 => cases hc
  rename_i fs hfs
  simp only [Option.bind_eq_some_iff] at hc
  obtain ⟨f, h0, n, h1, g, h2, x', h3, hc⟩ := hc
  split at hc
  case isFalse => cases hc
  simp only [Option.some.injEq] at hc; subst hc
  exact good_fld hop hfs h0 h1 h2 h3 hd hE
 | indexAddr t x i =>
  simp only [compOp0, hop, Option.bind_eq_some_iff, Option.some.injEq] at hc
  obtain ⟨e, h0, z, h1, x', h2, i', h3, rfl⟩ := hc
  exact good_iaddr hop (tyElem_spec h0) h1 h2 h3 hd hE
 | index t x i =>
  simp only [compOp0, hop] at hc
  split at hc
  case h_2 => cases hc
  rename_i hu
  simp only [Option.bind_eq_some_iff, Option.some.injEq] at hc
  obtain ⟨x', h1, i', h2, rfl⟩ := hc
  exact good_ix hop hu h1 h2 hd hE
 | extract x k =>
  simp only [compOp0, hop, Option.bind_eq_some_iff, Option.some.injEq] at hc
  obtain ⟨x', h1, rfl⟩ := hc
  exact good_ext hop h1 hd hE
 | call c => exact allGood_call c hop to hc hd hE
 | _ => simp [compOp0, hop] at hc
end
theorem allGood (P : Program) : AllGood P := by
 intro F o to st root E hc hd hE
 unfold compOp at hc
 split at hc
 ·rename_i t ht
  simp only [Option.some.injEq] at hc; subst hc
  exact allGood0 F o _ st root E ht hd hE
 ·split at hc
  ·simp only [Option.some.injEq] at hc; subst hc
   exact hE.elim
  ·cases hc
#print axioms allGood
end Go.Proofs.YtmedelmfkciblaaT


namespace Go.Proofs.YtmedelmfkciblaaT
set_option linter.unusedVariables false
set_option linter.unusedSimpArgs false
open Go
inductive TE where
 | set (d : Nat) (v : TV)
 | kill (d : Path → Bool)
def T : List TE → (Nat → TV) → Nat → TV
 | [], tb, k => tb k
 | .set d v :: ts, tb, k => if d = k then v else T ts tb k
 | .kill d :: ts, tb, k => killT d (T ts tb k)
structure OE where
 nr : Option Nat
 norg : List (Option Nat)
 dead : Option (Path → Bool)
def O : List OE → (Path → Option Nat) → Path → Option Nat
 | [], ob, q => ob q
 | e :: os, ob, q => match q with
  | [] => O os ob []
  | s :: r => if e.nr = some s.1 then (match r with
    | [t] => if s.2 = 0 ∧ t.1 = 0 then (e.norg[t.2]?).bind id else none
    | _ => none) else if deadB e.dead (s :: r) = true then none else O os ob (s :: r)
abbrev HL := List (Nat × List TV)
def lk : HL → Nat → List TV
 | [], _ => []
 | (r, c) :: hs, k => if r = k then c else lk hs k
def up : HL → Nat → List TV → HL
 | [], r, c => [(r, c)]
 | (r', c') :: hs, r, c => if r' = r then (r, c) :: hs else (r', c') :: up hs r c
def dropH : HL → List Nat → HL
 | [], _ => []
 | (r, c) :: hs, rs => if r ∈ rs then dropH hs rs else (r, c) :: dropH hs rs
theorem lk_up (hs : HL) (r : Nat) (c : List TV) (k : Nat) : lk (up hs r c) k = if k = r then c else lk hs k := by
 induction hs with
 | nil =>
  simp only [up, lk]
  by_cases h : k = r
  ·subst h; simp
  ·simp [h, Ne.symm h]
 | cons x hs ih =>
  obtain ⟨r', c'⟩ := x
  simp only [up]
  by_cases h : r' = r
  ·subst h
   simp only [if_true, lk]
   by_cases h2 : r' = k
   ·subst h2; simp
   ·simp [h2, Ne.symm h2]
  ·simp only [h, if_false, lk, ih]
   by_cases h2 : r' = k
   ·subst h2; simp [h]
   ·simp [h2]
@[simp] theorem setRoot_lk (hs : HL) (r : Nat) (c : List TV) : setRoot (lk hs) r c = lk (up hs r c) := by
 funext k; rw [lk_up]; rfl
@[simp] theorem modH_lk (hs : HL) (φ : TV → TV) (s : Nat × Nat) (r : Path) : modH (lk hs) φ (s :: r) = lk (up hs s.1 ((lk hs s.1).modify s.2 (modd φ r))) := by
 funext k; rw [lk_up]; simp only [modH]; split
 ·rename_i h; rw [h]
 ·rfl
theorem drop_lk (hs : HL) (rs : List Nat) : (fun y => if rs.contains y then [] else lk hs y) = lk (dropH hs rs) := by
 funext k
 induction hs with
 | nil => simp [lk, dropH]
 | cons x hs ih =>
  obtain ⟨r, c⟩ := x
  simp only [dropH]
  by_cases hr : r ∈ rs
  ·rw [if_pos hr, ← ih]
   by_cases hk : k ∈ rs
   ·simp [hk]
   ·have : r ≠ k := by rintro rfl; exact hk hr
    simp [lk, this]
  ·rw [if_neg hr]
   by_cases h2 : r = k
   ·subst h2; simp [lk, hr]
   ·simp only [lk, h2, if_false]; exact ih
@[simp] theorem lk_nil (k : Nat) : lk [] k = [] := rfl
@[simp] theorem lk_cons (r : Nat) (c : List TV) (hs : HL) (k : Nat) : lk ((r, c) :: hs) k = if r = k then c else lk hs k := rfl
@[simp] theorem T_nil (tb : Nat → TV) (k : Nat) : T [] tb k = tb k := rfl
@[simp] theorem T_set (d : Nat) (v : TV) (ts : List TE) (tb : Nat → TV) (k : Nat) : T (.set d v :: ts) tb k = if d = k then v else T ts tb k := rfl
@[simp] theorem T_kill (d : Path → Bool) (ts : List TE) (tb : Nat → TV) (k : Nat) : T (.kill d :: ts) tb k = killT d (T ts tb k) := rfl
attribute [simp] up dropH
def St.set (st : St) (d : Nat) (v : TV) : St where
 t := fun k => if d = k then v else st.t k
 H := st.H
 org := st.org
theorem put_val (st : St) (d : Nat) (v : TV) : st.put (some d) (val st v) = st.set d v := by
 unfold St.put St.set val
 congr 1
 ·funext k; simp [deadT]
 ·funext q; cases q <;> simp [orgPut, deadB]
@[simp] theorem set_nf (ts : List TE) (tb : Nat → TV) (h : Hp) (o : Path → Option Nat) (d : Nat) (v : TV) : (St.mk (T ts tb) h o).set d v = St.mk (T (.set d v :: ts) tb) h o := by
 unfold St.set; congr 1
@[simp] theorem undef_nf (ts : List TE) (tb : Nat → TV) (h : Hp) (o : Path → Option Nat) (d : Nat) : (St.mk (T ts tb) h o).undef (some d) = St.mk (T (.set d (.tu []) :: ts) tb) h o := by
 unfold St.undef; congr 1; funext k; simp [T]
def St.eff (st : St) (dst : Option Nat) (v : TV) (dead : Option (Path → Bool)) (H : Hp) (nr : Option Nat) (norg : List (Option Nat)) : St :=
 st.put dst { v, dead, H, wr := [], nr, norg }
@[simp] theorem eff_nf1 (ts : List TE) (tb : Nat → TV) (h H : Hp) (os : List OE) (ob : Path → Option Nat) (d : Nat) (v : TV) (nr : Option Nat) (norg : List (Option Nat)) :
  (St.mk (T ts tb) h (O os ob)).eff (some d) v none H nr norg = St.mk (T (.set d v :: ts) tb) H (O (⟨nr, norg, none⟩ :: os) ob) := by
 unfold St.eff St.put; congr 1
 ·funext k; simp [T, deadT]
 ·funext q; cases q <;> rfl
@[simp] theorem eff_nf2 (ts : List TE) (tb : Nat → TV) (h H : Hp) (os : List OE) (ob : Path → Option Nat) (d : Nat) (v : TV) (dd : Path → Bool) (nr : Option Nat) (norg : List (Option Nat)) :
  (St.mk (T ts tb) h (O os ob)).eff (some d) v (some dd) H nr norg = St.mk (T (.set d v :: .kill dd :: ts) tb) H (O (⟨nr, norg, some dd⟩ :: os) ob) := by
 unfold St.eff St.put; congr 1
 ·funext k; simp [T, deadT]
 ·funext q; cases q <;> rfl
@[simp] theorem eff_nf4 (ts : List TE) (tb : Nat → TV) (h H : Hp) (os : List OE) (ob : Path → Option Nat) (v : TV) (dd : Path → Bool) (nr : Option Nat) (norg : List (Option Nat)) :
  (St.mk (T ts tb) h (O os ob)).eff none v (some dd) H nr norg = St.mk (T (.kill dd :: ts) tb) H (O (⟨nr, norg, some dd⟩ :: os) ob) := by
 unfold St.eff St.put; congr 1
 ·funext q; cases q <;> rfl
theorem nf_of {s : St} {hs : HL} (h : s.H = lk hs) : s = St.mk (T [] s.t) (lk hs) (O [] s.org) := by
 cases s; simp only at h; subst h; rfl
theorem drop_nf (ts : List TE) (tb : Nat → TV) (hs : HL) (o : Path → Option Nat) (rs : List Nat) :
  (St.mk (T ts tb) (lk hs) o).drop rs = St.mk (T (.kill (fun q => match q.head? with | some s => rs.contains s.1 | none => false) :: ts) tb) (lk (dropH hs rs)) o := by
 unfold St.drop
 simp only
 congr 1
 exact drop_lk hs rs
theorem nrfl {α : Sort _} {a b : α} (h : a = b) : a = b := h
section
variable {P : Program} {Q : St → Prop} {TQ : TExit → St → Prop}
def contE (P : Program) (os : List TOper) (st : St) (dst : Option Nat) (Q : St → Prop) : Eff → Prop := fun E => opsW P os (st.put dst E) Q
@[simp] theorem contE_val (os : List TOper) (st : St) (d : Nat) (v : TV) : contE P os st (some d) Q (val st v) = opsW P os (st.set d v) Q := by
 unfold contE; rw [put_val]
@[simp] theorem contE_eff (os : List TOper) (st : St) (dst : Option Nat) (v : TV) (dead : Option (Path → Bool)) (H : Hp) (wr : List Nat) (nr : Option Nat) (norg : List (Option Nat)) :
  contE P os st dst Q ⟨v, dead, H, wr, nr, norg⟩ = opsW P os (st.eff dst v dead H nr norg) Q := nrfl rfl
def guardS (P : Program) (o : TOper) (os : List TOper) (st : St) (Q : St → Prop) (want x : Bool) : Prop :=
 ((x == want) = true → opW P st o.root o.op (contE P os st o.dst Q)) ∧ ((x == want) = false → opsW P os (st.undef o.dst) Q)
@[simp] theorem guardS_tt (o : TOper) (os : List TOper) (st : St) : guardS P o os st Q true true = opW P st o.root o.op (contE P os st o.dst Q) := by simp [guardS]
@[simp] theorem guardS_ff (o : TOper) (os : List TOper) (st : St) : guardS P o os st Q false false = opW P st o.root o.op (contE P os st o.dst Q) := by simp [guardS]
@[simp] theorem guardS_tf (o : TOper) (os : List TOper) (st : St) : guardS P o os st Q true false = opsW P os (st.undef o.dst) Q := by simp [guardS]
@[simp] theorem guardS_ft (o : TOper) (os : List TOper) (st : St) : guardS P o os st Q false true = opsW P os (st.undef o.dst) Q := by simp [guardS]
@[simp] theorem opsW_nil (st : St) : opsW P [] st Q = Q st := nrfl rfl
@[simp] theorem opsW_none (dst : Option Nat) (root : Nat) (op : TOp) (pr : List Nat) (os : List TOper) (st : St) :
  opsW P (⟨dst, root, op, none, pr⟩ :: os) st Q = opW P st root op (contE P os st dst Q) := by
 unfold contE; simp [opsW, wantW]
def gv (P : Program) (o : TOper) (os : List TOper) (st : St) (Q : St → Prop) (w : Bool) : TV → Prop
 | .b x => guardS P o os st Q w x
 | .tu _ => opsW P os (st.undef o.dst) Q
 | _ => False
@[simp] theorem opsW_guard (dst : Option Nat) (root : Nat) (op : TOp) (t : Nat) (w : Bool) (pr : List Nat) (os : List TOper) (st : St) :
  opsW P (⟨dst, root, op, some (t, w), pr⟩ :: os) st Q = gv P ⟨dst, root, op, some (t, w), pr⟩ os st Q w (st.t t) := by
 unfold gv guardS contE
 simp only [opsW, wantW]
 cases st.t t <;> simp [gB]
@[simp] theorem gv_b (o : TOper) (os : List TOper) (st : St) (w x : Bool) : gv P o os st Q w (.b x) = guardS P o os st Q w x := nrfl rfl
@[simp] theorem gv_tu (o : TOper) (os : List TOper) (st : St) (w : Bool) (vs : List TV) : gv P o os st Q w (.tu vs) = opsW P os (st.undef o.dst) Q := nrfl rfl
def contD (P : Program) (o : TOper) (os : List TOper) (fs : List Foot) (st : St) (Q : St → Prop) : Eff → Prop := fun E =>
 chk fs o.free (footOf st o E) = true ∧ drawW P os (fs ++ [footOf st o E]) (st.put o.dst E) Q
@[simp] theorem contD_val (d root : Nat) (op : TOp) (g : Option (Nat × Bool)) (fr : List Nat) (os : List TOper) (fs : List Foot) (st : St) (v : TV) :
  contD P ⟨some d, root, op, g, fr⟩ os fs st Q (val st v) = (chk fs fr ⟨rootsL (opT st op), [], rootsT v, root, njL (opT st op), voOf st v op, none⟩ = true ∧
   drawW P os (fs ++ [⟨rootsL (opT st op), [], rootsT v, root, njL (opT st op), voOf st v op, none⟩]) (st.set d v) Q) := by
 unfold contD; rw [put_val]; rfl
@[simp] theorem contD_eff (dst : Option Nat) (root : Nat) (op : TOp) (g : Option (Nat × Bool)) (fr : List Nat) (os : List TOper) (fs : List Foot) (st : St) (v : TV) (dead : Option (Path → Bool)) (H : Hp) (wr : List Nat) (nr : Option Nat) (norg : List (Option Nat)) :
  contD P ⟨dst, root, op, g, fr⟩ os fs st Q ⟨v, dead, H, wr, nr, norg⟩ = (chk fs fr ⟨rootsL (opT st op), wr, rootsT v, root, njL (opT st op), voOf st v op, dead⟩ = true ∧
   drawW P os (fs ++ [⟨rootsL (opT st op), wr, rootsT v, root, njL (opT st op), voOf st v op, dead⟩]) (st.eff dst v dead H nr norg) Q) := rfl
@[simp] theorem drawW_nil (fs : List Foot) (st : St) : drawW P [] fs st Q = Q st := nrfl rfl
@[simp] theorem drawW_none (dst : Option Nat) (root : Nat) (op : TOp) (fr : List Nat) (os : List TOper) (fs : List Foot) (st : St) :
  drawW P (⟨dst, root, op, none, fr⟩ :: os) fs st Q = opW P st root op (contD P ⟨dst, root, op, none, fr⟩ os fs st Q) := by
 unfold contD; simp [drawW, wantW]
def guardD (P : Program) (o : TOper) (os : List TOper) (fs : List Foot) (st : St) (Q : St → Prop) (want x : Bool) : Prop :=
 ((x == want) = true → opW P st o.root o.op (contD P o os fs st Q)) ∧ ((x == want) = false → chk fs o.free (foot0 o) = true ∧ drawW P os (fs ++ [foot0 o]) (st.undef o.dst) Q)
@[simp] theorem guardD_tt (o : TOper) (os : List TOper) (fs : List Foot) (st : St) : guardD P o os fs st Q true true = opW P st o.root o.op (contD P o os fs st Q) := by simp [guardD]
@[simp] theorem guardD_ff (o : TOper) (os : List TOper) (fs : List Foot) (st : St) : guardD P o os fs st Q false false = opW P st o.root o.op (contD P o os fs st Q) := by simp [guardD]
@[simp] theorem guardD_tf (o : TOper) (os : List TOper) (fs : List Foot) (st : St) : guardD P o os fs st Q true false = (chk fs o.free (foot0 o) = true ∧ drawW P os (fs ++ [foot0 o]) (st.undef o.dst) Q) := by simp [guardD]
@[simp] theorem guardD_ft (o : TOper) (os : List TOper) (fs : List Foot) (st : St) : guardD P o os fs st Q false true = (chk fs o.free (foot0 o) = true ∧ drawW P os (fs ++ [foot0 o]) (st.undef o.dst) Q) := by simp [guardD]
def gvD (P : Program) (o : TOper) (os : List TOper) (fs : List Foot) (st : St) (Q : St → Prop) (w : Bool) : TV → Prop
 | .b x => guardD P o os fs st Q w x
 | .tu _ => chk fs o.free (foot0 o) = true ∧ drawW P os (fs ++ [foot0 o]) (st.undef o.dst) Q
 | _ => False
@[simp] theorem drawW_guard (dst : Option Nat) (root : Nat) (op : TOp) (t : Nat) (w : Bool) (fr : List Nat) (os : List TOper) (fs : List Foot) (st : St) :
  drawW P (⟨dst, root, op, some (t, w), fr⟩ :: os) fs st Q = gvD P ⟨dst, root, op, some (t, w), fr⟩ os fs st Q w (st.t t) := by
 unfold gvD guardD contD
 simp only [drawW, wantW]
 cases st.t t <;> simp [gB]
@[simp] theorem gvD_tu (o : TOper) (os : List TOper) (fs : List Foot) (st : St) (w : Bool) (vs : List TV) : gvD P o os fs st Q w (.tu vs) = (chk fs o.free (foot0 o) = true ∧ drawW P os (fs ++ [foot0 o]) (st.undef o.dst) Q) := nrfl rfl
@[simp] theorem gvD_b (o : TOper) (os : List TOper) (fs : List Foot) (st : St) (w x : Bool) : gvD P o os fs st Q w (.b x) = guardD P o os fs st Q w x := nrfl rfl
def chk1 (g : Foot) : Option Foot → Bool
 | some f => pairOk f g
 | none => false
@[simp] theorem chk_nil (fs : List Foot) (g : Foot) : chk fs [] g = true := nrfl rfl
@[simp] theorem chkA_nil (fs : List Foot) (g : Foot) : chkA fs [] g = true := nrfl rfl
@[simp] theorem chkA_cons (fs : List Foot) (k : Nat) (ks : List Nat) (g : Foot) : chkA fs (k :: ks) g = (chk1 g fs[k]? && chkA fs ks g) := nrfl rfl
def chk2 (g : Foot) : Option Foot → Bool
 | some f => pair1 f (lateFoot g)
 | none => false
@[simp] theorem chkL_nil (fs : List Foot) (g : Foot) : chkL fs [] g = true := nrfl rfl
@[simp] theorem chkL_cons (fs : List Foot) (k : Nat) (ks : List Nat) (g : Foot) : chkL fs (k :: ks) g = (chk2 g fs[k]? && chkL fs ks g) := nrfl rfl
@[simp] theorem chk2_some (a b c : List Nat) (r : Nat) (n : Bool) (vo : Option (List TV)) (dd : Option (Path → Bool)) (a2 b2 c2 : List Nat) (r2 : Nat) (n2 : Bool) (vo2 : Option (List TV)) (dd2 : Option (Path → Bool)) :
  chk2 ⟨a2, b2, c2, r2, n2, vo2, dd2⟩ (some ⟨a, b, c, r, n, vo, dd⟩) = ((b.isEmpty || (disj b (r2 :: (a2.take 1 ++ b2.take 1 ++ [])) && true)) && ((b2.take 1).isEmpty || disj (b2.take 1) (r :: (a ++ c)))) := nrfl rfl
@[simp] theorem chkB_mk (fs : List Foot) (ks : List Nat) (a2 b2 c2 : List Nat) (r2 : Nat) (n2 : Bool) (vo2 : Option (List TV)) (dd2 : Option (Path → Bool)) :
  chkB fs ks ⟨a2, b2, c2, r2, n2, vo2, dd2⟩ = (disj (b2.take 1) (a2.drop 1) && chkL fs ks ⟨a2, b2, c2, r2, n2, vo2, dd2⟩) := nrfl rfl
@[simp] theorem chk_cons (fs : List Foot) (k : Nat) (ks : List Nat) (g : Foot) : chk fs (k :: ks) g = if k = 1000000 then chkA fs ks g || chkB fs ks g else chk1 g fs[k]? && chkA fs ks g := by
 unfold chk unmark marked
 by_cases h : k = 1000000
 ·simp [h]
 ·simp [h]
@[simp] theorem chk1_some (f g : Foot) : chk1 g (some f) = pairOk f g := nrfl rfl
@[simp] theorem pairOk_mk (a b c : List Nat) (r : Nat) (n : Bool) (vo : Option (List TV)) (dd : Option (Path → Bool)) (a2 b2 c2 : List Nat) (r2 : Nat) (n2 : Bool) (vo2 : Option (List TV)) (dd2 : Option (Path → Bool)) :
  pairOk ⟨a, b, c, r, n, vo, dd⟩ ⟨a2, b2, c2, r2, n2, vo2, dd2⟩ = pair2 ⟨a, b, c, r, n, vo, dd⟩ ⟨a2, b2, c2, r2, n2, vo2, dd2⟩ ((b.isEmpty || (disj b (r2 :: (a2 ++ b2 ++ c2)) && n2)) && (b2.isEmpty || disj b2 (r :: (a ++ c)))) := nrfl rfl
@[simp] theorem pair2_t (f g : Foot) : pair2 f g true = true := nrfl rfl
@[simp] theorem pair2_f (f g : Foot) : pair2 f g false = (vo1 g.dd f.vo || (g.nj && vo1 f.dd g.vo) || rdA g.dd g.vo f.vo) := nrfl rfl
@[simp] theorem vo1_s (d : Option (Path → Bool)) (a b : TV) : vo1 d (some [a, b]) = liveL d [a, b] := nrfl rfl
@[simp] theorem vo1_s1 (d : Option (Path → Bool)) (a : TV) : vo1 d (some [a]) = false := nrfl rfl
@[simp] theorem vo1_s0 (d : Option (Path → Bool)) : vo1 d (some []) = false := nrfl rfl
@[simp] theorem vo1_s3 (d : Option (Path → Bool)) (a b c : TV) : vo1 d (some [a, b, c]) = false := nrfl rfl
@[simp] theorem voL_r (x : TV) (p : Path) (off len : Nat) : voL x (.rf p off len) = some [.ag [.rf p off len, x]] := nrfl rfl
@[simp] theorem voA_a (x : TV) (us : List TV) : voA x (.ag us) = if us.all isRefT && !us.isEmpty then some [.ag [.ag us, x]] else none := nrfl rfl
attribute [simp] isRefT isAA
@[simp] theorem rdA_s (d : Option (Path → Bool)) (a : TV) : rdA d (some []) (some [a]) = (liveT d a && !isAA a) := nrfl (by unfold rdA; rfl)
@[simp] theorem rdA_c (d : Option (Path → Bool)) (a b c v x : TV) : rdA d (some [a, b, c]) (some [.ag [v, x]]) = liveT d (.ag [v, x]) := nrfl rfl
@[simp] theorem rdA_3 (d : Option (Path → Bool)) (o : Option (List TV)) (a b c : TV) : rdA d o (some [a, b, c]) = false := nrfl (by unfold rdA; split <;> simp_all)
@[simp] theorem rdA_n (d : Option (Path → Bool)) (o : Option (List TV)) : rdA d o none = false := nrfl (by unfold rdA; split <;> simp_all)
@[simp] theorem rdA_n2 (d : Option (Path → Bool)) (o : Option (List TV)) : rdA d none o = false := nrfl (by unfold rdA; split <;> simp_all)
@[simp] theorem vo1_n (d : Option (Path → Bool)) : vo1 d none = false := nrfl rfl
@[simp] theorem liveB_s (d : Path → Bool) (p : Path) : liveB (some d) p = !d p := nrfl rfl
@[simp] theorem disj_nil (b : List Nat) : disj [] b = true := nrfl rfl
@[simp] theorem disj_cons (r : Nat) (a b : List Nat) : disj (r :: a) b = (!b.contains r && disj a b) := nrfl rfl
@[simp] theorem foot0_mk (dst : Option Nat) (root : Nat) (op : TOp) (g : Option (Nat × Bool)) (fr : List Nat) : foot0 ⟨dst, root, op, g, fr⟩ = ⟨[], [], [], root, true, none, none⟩ := nrfl rfl
attribute [simp] opT evO rootsT rootsL njT njL extT voOf liveT liveL
def seqK (P : Program) (b : TCode) (TQ : TExit → St → Prop) : TExit → St → Prop := fun e s => match e with | .normal => twp P b TQ s | e => TQ e s
def blkK (id : Nat) (TQ : TExit → St → Prop) : TExit → St → Prop := fun e s => match e with | .exit i => if i = id then TQ .normal s else TQ (.exit i) s | e => TQ e s
def condS (P : Program) (a b : TCode) (TQ : TExit → St → Prop) (st : St) (x : Bool) : Prop := (x = true → twp P a TQ st) ∧ (x = false → twp P b TQ st)
def condV (P : Program) (a b : TCode) (TQ : TExit → St → Prop) (st : St) : TV → Prop
 | .b x => condS P a b TQ st x
 | _ => False
@[simp] theorem seqK_n (b : TCode) (s : St) : seqK P b TQ .normal s = twp P b TQ s := nrfl rfl
@[simp] theorem seqK_e (b : TCode) (s : St) (i : Nat) : seqK P b TQ (.exit i) s = TQ (.exit i) s := nrfl rfl
@[simp] theorem seqK_r (b : TCode) (s : St) : seqK P b TQ .ret s = TQ .ret s := nrfl rfl
@[simp] theorem blkK_n (id : Nat) (s : St) : blkK id TQ .normal s = TQ .normal s := nrfl rfl
@[simp] theorem blkK_e (id i : Nat) (s : St) : blkK id TQ (.exit i) s = if i = id then TQ .normal s else TQ (.exit i) s := nrfl rfl
@[simp] theorem blkK_r (id : Nat) (s : St) : blkK id TQ .ret s = TQ .ret s := nrfl rfl
@[simp] theorem condS_t (a b : TCode) (st : St) : condS P a b TQ st true = twp P a TQ st := by simp [condS]
@[simp] theorem condS_f (a b : TCode) (st : St) : condS P a b TQ st false = twp P b TQ st := by simp [condS]
@[simp] theorem condV_b (a b : TCode) (st : St) (x : Bool) : condV P a b TQ st (.b x) = condS P a b TQ st x := nrfl rfl
@[simp] theorem twp_skip (st : St) : twp P .skip TQ st = TQ .normal st := nrfl rfl
@[simp] theorem twp_ops (l : List TOper) (st : St) : twp P (.ops l) TQ st = opsW P l st (TQ .normal) := nrfl rfl
@[simp] theorem twp_draw (l : List TOper) (st : St) : twp P (.draw l) TQ st = drawW P l [] st (TQ .normal) := nrfl rfl
@[simp] theorem twp_seq (a b : TCode) (st : St) : twp P (.seq a b) TQ st = twp P a (seqK P b TQ) st := nrfl rfl
@[simp] theorem twp_cond (c : TOpd) (a b : TCode) (st : St) : twp P (.cond c a b) TQ st = condV P a b TQ st (c.ev st) := by
 unfold condV condS; simp only [twp]; cases c.ev st <;> rfl
@[simp] theorem twp_block (id : Nat) (a : TCode) (st : St) : twp P (.block id a) TQ st = twp P a (blkK id TQ) st := nrfl rfl
@[simp] theorem twp_exit (id : Nat) (st : St) : twp P (.exit id) TQ st = TQ (.exit id) st := nrfl rfl
@[simp] theorem twp_ret (st : St) : twp P .ret TQ st = TQ .ret st := nrfl rfl
@[simp] theorem ev_t (ts : List TE) (tb : Nat → TV) (h : Hp) (o : Path → Option Nat) (n : Nat) : TOpd.ev (St.mk (T ts tb) h o) (.t n) = T ts tb n := rfl
@[simp] theorem ev_c (st : St) (v : TV) : TOpd.ev st (.c v) = v := rfl
def loopK (I : Nat → St → Prop) (rs : List Nat) (n : Nat) (TQ : TExit → St → Prop) : TExit → St → Prop := fun e s' => match e with | .normal => ∃ m, m < n ∧ I m (s'.drop rs) | e => TQ e s'
theorem twp_loopR {a : TCode} {st : St} (I : Nat → St → Prop) (rs : List Nat) (mv : List (Nat × Nat)) (h0 : 0 ∉ rs) (hm : renOk (st.drop rs) mv) (n0 : Nat) (hi : I n0 ((st.drop rs).rens mv)) (h : ∀ n s, I n s → twp P a (loopK I rs n TQ) s) : twp P (.loop a) TQ st :=
 ⟨I, rs, mv, h0, hm, ⟨n0, hi⟩, h⟩
def renL (a b : Nat) : HL → HL
 | [] => []
 | (r, c) :: hs => ((if r = a then b else r), c) :: renL a b hs
def hasK (b : Nat) : HL → Bool
 | [] => false
 | (r, _) :: hs => r == b || hasK b hs
attribute [simp] renL hasK renP renT renTL
theorem ren_lk {a b : Nat} : ∀ {hs : HL}, hasK b hs = false → renH a b (lk hs) = lk (renL a b hs)
 | [], _ => by funext y; simp [renH, lk]
 | (r, c) :: hs, h => by
  simp only [hasK, Bool.or_eq_false_iff, beq_eq_false_iff_ne, ne_eq] at h
  have ih := ren_lk (a := a) (b := b) h.2
  funext y
  have ihy := congrFun ih y
  simp only [renH] at ihy ⊢
  simp only [renL, lk]
  by_cases hy : y = b
  ·subst hy
   simp only [if_true] at ihy ⊢
   by_cases hr : r = a
   ·simp [hr]
   ·simp only [hr, if_false, h.1]; exact ihy
  ·simp only [hy, if_false] at ihy ⊢
   by_cases hya : y = a
   ·subst hya
    simp only [if_true] at ihy ⊢
    by_cases hr : r = y
    ·simp only [hr, if_true, show ¬ b = y from fun h => hy h.symm, if_false]; exact ihy
    ·simp only [hr, if_false]; exact ihy
   ·simp only [hya, if_false] at ihy ⊢
    by_cases hr : r = a
    ·subst hr
     simp only [if_true, show ¬ b = y from fun h => hy h.symm, show ¬ r = y from fun h => hya h.symm, if_false]; exact ihy
    ·simp only [hr, if_false]
     by_cases hry : r = y
     ·simp [hry]
     ·simp only [hry, if_false]; exact ihy
@[simp] theorem ren_nf (t : Nat → TV) (hs : HL) (o : Path → Option Nat) (a b : Nat) (h : hasK b hs = false) :
  (St.mk t (lk hs) o).ren a b = St.mk (fun k => renT a b (t k)) (lk (renL a b hs)) (renO a b o) := by
 unfold St.ren; rw [ren_lk h]
@[simp] theorem rens_nil (st : St) : st.rens [] = st := nrfl rfl
@[simp] theorem rens_cons (st : St) (a b : Nat) (mv : List (Nat × Nat)) : st.rens ((a, b) :: mv) = (st.ren a b).rens mv := nrfl rfl
@[simp] theorem renOk_nil (st : St) : renOk st [] = True := nrfl rfl
@[simp] theorem renOk_cons (st : St) (a b : Nat) (mv : List (Nat × Nat)) : renOk st ((a, b) :: mv) = ((2 ≤ a ∧ 2 ≤ b ∧ a ≠ b ∧ st.H b = []) ∧ renOk (st.ren a b) mv) := nrfl rfl
end
@[simp] theorem init_nf (ms : List Mode) (args : List TV) : initSt ms args = St.mk (T [] fun k => ((initT 0 ms args)[k]?).getD .junk) (lk [(1, ownCells ms args)]) (O [] fun _ => none) := by
 unfold initSt
 congr 1
 funext r; simp [eq_comm]
attribute [simp] initT ownCells refArg refsFrom toRef cellsT isAg
end Go.Proofs.YtmedelmfkciblaaT


namespace Go.Proofs.YtmedelmfkciblaaT
set_option linter.unusedVariables false
set_option linter.unusedSimpArgs false
open Go
section
variable {P : Program} {st : St} {root : Nat} {K : Eff → Prop}
def valK (st : St) (K : Eff → Prop) (v : TV) : Prop := K (val st v)
@[simp] theorem valK_app (v : TV) : valK st K v = K (val st v) := nrfl rfl
@[simp] theorem opW_mv (x : TOpd) : opW P st root (.mv x) K = K (val st (x.ev st)) := nrfl rfl
def pickV (st : St) (K : Eff → Prop) (a b : TV) : TV → Prop
 | .b x => K (val st (if x then a else b))
 | _ => False
@[simp] theorem opW_pick (c a b : TOpd) : opW P st root (.pick c a b) K = pickV st K (a.ev st) (b.ev st) (c.ev st) := by unfold pickV; simp only [opW]; cases c.ev st <;> rfl
@[simp] theorem pickV_t (a b : TV) : pickV st K a b (.b true) = K (val st a) := nrfl rfl
@[simp] theorem pickV_f (a b : TV) : pickV st K a b (.b false) = K (val st b) := nrfl rfl
def deadU (ds : List Path) : Option (Path → Bool) := if ds = [] then none else some (under ds)
@[simp] theorem deadU_nil : deadU [] = none := nrfl rfl
@[simp] theorem deadU_cons (p : Path) (ds : List Path) : deadU (p :: ds) = some (under (p :: ds)) := nrfl rfl
def boxV (st : St) (root n : Nat) (x : TV) (K : Eff → Prop) : Option (List TV × Hp × List Path) → Prop
 | some (us, H1, ds) => us.length = n ∧ st.H root = [] ∧ 2 ≤ root ∧
    K { v := .pt [(root, 0)] 0 0, dead := deadU ds, H := setRoot H1 root [.po true us], wr := root :: ds.filterMap (fun p => p.head?.map (·.1)), nr := some root, norg := (cellsT x).map (norgOf st) }
 | none => False
@[simp] theorem opW_box (n : Nat) (x : TOpd) : opW P st root (.box n x) K = boxV st root n (x.ev st) K (takeL (cellsT (x.ev st)) st.H) := by
 unfold boxV; simp only [opW, deadU]; rfl
@[simp] theorem boxV_s (n : Nat) (x : TV) (us : List TV) (H1 : Hp) (ds : List Path) : boxV st root n x K (some (us, H1, ds)) = (us.length = n ∧ st.H root = [] ∧ 2 ≤ root ∧
    K ⟨.pt [(root, 0)] 0 0, deadU ds, setRoot H1 root [.po true us], root :: ds.filterMap (fun p => p.head?.map (·.1)), some root, (cellsT x).map (norgOf st)⟩) := nrfl rfl
def agV (st : St) (K : Eff → Prop) : Option (List TV) → Prop
 | some cs => K (val st (.ag cs))
 | none => False
@[simp] theorem opW_build (zero : List TV) (parts : List (Nat × Nat × TOpd)) : opW P st root (.build zero parts) K = agV st K (putParts zero (parts.map fun x => (x.1, x.2.1, x.2.2.ev st))) := nrfl rfl
@[simp] theorem agV_s (cs : List TV) : agV st K (some cs) = K (val st (.ag cs)) := nrfl rfl
def bsV2 (st : St) (root z len : Nat) (K : Eff → Prop) : Option (List TV × Hp × List Path) → Prop
 | some (us, H1, ds) => st.H root = [] ∧ 2 ≤ root ∧
     K { v := .rf [(root, 0)] 0 len, dead := deadU ds, H := setRoot H1 root [.sl true z (chunk z len us)], wr := root :: ds.filterMap (fun p => p.head?.map (·.1)), nr := some root }
 | none => False
def bsV (st : St) (root z len : Nat) (K : Eff → Prop) : Option (List (List TV)) → Prop
 | some es => bsV2 st root z len K (takeL es.flatten st.H)
 | none => False
theorem opW_bslice (z len : Nat) (zero : List TV) (parts : List (Nat × TOpd)) (hz : zero.length = z) : opW P st root (.bslice z len zero parts) K = bsV st root z len K (putElems z (List.replicate len zero) (parts.map fun x => (x.1, x.2.ev st))) := by
 unfold bsV bsV2; simp only [opW, deadU]
 cases putElems z (List.replicate len zero) (parts.map fun x => (x.1, x.2.ev st)) with
 | none => rfl
 | some es =>
  simp only
  cases takeL es.flatten st.H with
  | none => rfl
  | some x => obtain ⟨us, H1, ds⟩ := x; simp [hz]
attribute [simp] opW_bslice
@[simp] theorem bsV_s (z len : Nat) (es : List (List TV)) : bsV st root z len K (some es) = bsV2 st root z len K (takeL es.flatten st.H) := nrfl rfl
@[simp] theorem bsV2_s (z len : Nat) (us : List TV) (H1 : Hp) (ds : List Path) : bsV2 st root z len K (some (us, H1, ds)) = (st.H root = [] ∧ 2 ≤ root ∧
     K ⟨.rf [(root, 0)] 0 len, deadU ds, setRoot H1 root [.sl true z (chunk z len us)], root :: ds.filterMap (fun p => p.head?.map (·.1)), some root, []⟩) := nrfl rfl
def loadV2 (st : St) (p : Path) (i f n : Nat) (agg : Bool) (K : Eff → Prop) : Option (List TV) → Prop
 | some cs => f + n ≤ cs.length ∧ (if agg then K (val st (.ag (refsFrom p i f ((cs.drop f).take n)))) else n = 1 ∧ K (val st ((refsFrom p i f ((cs.drop f).take 1)).headD .junk)))
 | none => False
def loadV (st : St) (agg : Bool) (n : Nat) (K : Eff → Prop) : TV → Prop
 | .pt p i f => loadV2 st p i f n agg K (rowAt st.H p i)
 | .po false cs => n ≤ cs.length ∧ (if agg then K (val st (.ag (cs.take n))) else n = 1 ∧ K (val st (cs.headD .junk)))
 | _ => False
@[simp] theorem opW_load (agg : Bool) (n : Nat) (a : TOpd) : opW P st root (.load agg n a) K = loadV st agg n K (a.ev st) := by
 unfold loadV loadV2; simp only [opW] <;> rfl
@[simp] theorem loadV_pt (agg : Bool) (n : Nat) (p : Path) (i f : Nat) : loadV st agg n K (.pt p i f) = loadV2 st p i f n agg K (rowAt st.H p i) := nrfl rfl
@[simp] theorem loadV_poT (n : Nat) (cs : List TV) : loadV st true n K (.po false cs) = (n ≤ cs.length ∧ K (val st (.ag (cs.take n)))) := nrfl rfl
@[simp] theorem loadV_poF (cs : List TV) : loadV st false 1 K (.po false cs) = (1 ≤ cs.length ∧ K (val st (cs.headD .junk))) := by simp [loadV]
@[simp] theorem loadV2_T (p : Path) (i f n : Nat) (cs : List TV) : loadV2 st p i f n true K (some cs) = (f + n ≤ cs.length ∧ K (val st (.ag (refsFrom p i f ((cs.drop f).take n))))) := nrfl rfl
@[simp] theorem loadV2_F (p : Path) (i f : Nat) (cs : List TV) : loadV2 st p i f 1 false K (some cs) = (f + 1 ≤ cs.length ∧ K (val st ((refsFrom p i f ((cs.drop f).take 1)).headD .junk))) := by simp [loadV2]
def rowOk (H : Hp) (p : Path) (i m : Nat) : Prop := match rowAt H p i with | some cs => m ≤ cs.length | none => False
def stU (ds : List Path) (p : Path) (i f n : Nat) (q : Path) : Bool := under ds q || under ((List.range n).map fun j => p ++ [(i, f + j)]) q
def storeV2 (p : Path) (i f n : Nat) (K : Eff → Prop) : Option (List TV × Hp × List Path) → Prop
 | some (us, H1, ds) => us.length = n ∧ rowOk H1 p i (f + n) ∧
     K { v := .junk, dead := some (stU ds p i f n), H := putL p i f us H1, wr := (p.head?.map (·.1)).toList ++ ds.filterMap (fun p => p.head?.map (·.1)) }
 | none => False
def storeV (n : Nat) (tk : Option (List TV × Hp × List Path)) (K : Eff → Prop) : TV → Prop
 | .pt p i f => storeV2 p i f n K tk
 | _ => False
@[simp] theorem opW_store (n : Nat) (a x : TOpd) : opW P st root (.store n a x) K = storeV n (takeL (cellsT (x.ev st)) st.H) K (a.ev st) := by
 unfold storeV storeV2 rowOk stU; simp only [opW] <;> rfl
@[simp] theorem storeV_pt (n : Nat) (tk : Option (List TV × Hp × List Path)) (p : Path) (i f : Nat) : storeV n tk K (.pt p i f) = storeV2 p i f n K tk := nrfl rfl
@[simp] theorem storeV2_s (p : Path) (i f n : Nat) (us : List TV) (H1 : Hp) (ds : List Path) : storeV2 p i f n K (some (us, H1, ds)) = (us.length = n ∧ rowOk H1 p i (f + n) ∧
     K ⟨.junk, some (stU ds p i f n), putL p i f us H1, (p.head?.map (·.1)).toList ++ ds.filterMap (fun p => p.head?.map (·.1)), none, []⟩) := nrfl rfl
def nilckV (st : St) (K : Eff → Prop) : TV → Prop
 | .pt p i f => K (val st (.pt p i f))
 | .po false cs => K (val st (.po false cs))
 | .fn g cs => K (val st (.fn g cs))
 | _ => False
@[simp] theorem opW_nilck (x : TOpd) : opW P st root (.nilck x) K = nilckV st K (x.ev st) := by unfold nilckV; simp only [opW] <;> rfl
@[simp] theorem nilckV_pt (p : Path) (i f : Nat) : nilckV st K (.pt p i f) = K (val st (.pt p i f)) := nrfl rfl
theorem beq_bytes (s r : ByteArray) : (s == r) = decide (s = r) := by
 obtain ⟨a⟩ := s; obtain ⟨b⟩ := r
 rw [Bool.eq_iff_iff]
 show (a == b) = true ↔ _
 simp
@[simp] theorem opW_bin (o : BinOp) (x y : TOpd) : opW P st root (.bin o x y) K = binT o (x.ev st) (y.ev st) (valK st K) := nrfl rfl
section
variable {Kv : TV → Prop} (k : IntKind) (a b : Int)
@[simp] theorem binT_add : binT .add (.i k a) (.i k b) Kv = Kv (.i k (k.wrap (a + b))) := by simp [binT]
@[simp] theorem binT_sub : binT .sub (.i k a) (.i k b) Kv = Kv (.i k (k.wrap (a - b))) := by simp [binT]
@[simp] theorem binT_mul : binT .mul (.i k a) (.i k b) Kv = Kv (.i k (k.wrap (a * b))) := by simp [binT]
@[simp] theorem binT_quo : binT .quo (.i k a) (.i k b) Kv = (b ≠ 0 ∧ Kv (.i k (k.wrap (a.tdiv b)))) := by simp [binT]
@[simp] theorem binT_rem : binT .rem (.i k a) (.i k b) Kv = (b ≠ 0 ∧ Kv (.i k (a.tmod b))) := by simp [binT]
@[simp] theorem binT_and : binT .and (.i k a) (.i k b) Kv = Kv (.i k (k.wrap (BitVec.ofInt k.bits a &&& BitVec.ofInt k.bits b).toNat)) := by simp [binT]
@[simp] theorem binT_xor : binT .xor (.i k a) (.i k b) Kv = Kv (.i k (k.wrap (BitVec.ofInt k.bits a ^^^ BitVec.ofInt k.bits b).toNat)) := by simp [binT]
@[simp] theorem binT_shl (k' : IntKind) : binT .shl (.i k a) (.i k' b) Kv = (0 ≤ b ∧ Kv (.i k (k.wrap (a * 2 ^ (min b.toNat k.bits))))) := by simp [binT]
@[simp] theorem binT_shr (k' : IntKind) : binT .shr (.i k a) (.i k' b) Kv = (0 ≤ b ∧ Kv (.i k (a.fdiv (2 ^ (min b.toNat k.bits))))) := by simp [binT]
@[simp] theorem binT_eql : binT .eql (.i k a) (.i k b) Kv = Kv (.b (decide (a = b))) := by simp only [binT, true_and]; rfl
@[simp] theorem binT_neq : binT .neq (.i k a) (.i k b) Kv = Kv (.b (!decide (a = b))) := by simp only [binT, true_and]; rfl
@[simp] theorem binT_lss : binT .lss (.i k a) (.i k b) Kv = Kv (.b (decide (a < b))) := by simp [binT]
@[simp] theorem binT_leq : binT .leq (.i k a) (.i k b) Kv = Kv (.b (decide (a ≤ b))) := by simp [binT]
@[simp] theorem binT_gtr : binT .gtr (.i k a) (.i k b) Kv = Kv (.b (decide (b < a))) := by simp [binT]
@[simp] theorem binT_geq : binT .geq (.i k a) (.i k b) Kv = Kv (.b (decide (b ≤ a))) := by simp [binT]
variable (s r : ByteArray)
@[simp] theorem binT_sadd : binT .add (.s s) (.s r) Kv = (s.size + r.size < 2 ^ 62 ∧ Kv (.s (s ++ r))) := nrfl rfl
@[simp] theorem binT_seql : binT .eql (.s s) (.s r) Kv = Kv (.b (decide (s = r))) := by
 simp only [binT]
 rw [← beq_toListBytes, beq_bytes]
variable (x y : Nat)
@[simp] theorem binT_fmul : binT .mul (.f x) (.f y) Kv = Kv (.f (fltArith .mul x y)) := nrfl rfl
@[simp] theorem binT_fquo : binT .quo (.f x) (.f y) Kv = Kv (.f (fltArith .quo x y)) := nrfl rfl
@[simp] theorem binT_feql : binT .eql (.f x) (.f y) Kv = Kv (.b (FloatKind.f64.format.order x y == some .eq)) := nrfl rfl
@[simp] theorem binT_fgtr : binT .gtr (.f x) (.f y) Kv = Kv (.b (FloatKind.f64.format.order x y == some .gt)) := nrfl rfl
end
def eqsV (st : St) (neg : Bool) (x y : Bool) (K : Eff → Prop) : Option Bool → Prop
 | some r => x = y ∧ K (val st (.b (r ^^ neg)))
 | none => False
@[simp] theorem opW_eqsT (neg : Bool) (ks : List EK) (x y : TOpd) : opW P st root (.eqs neg true ks x y) K = eqsV st neg (isAg (x.ev st) && isAg (y.ev st)) true K (eqL ks (cellsT (x.ev st)) (cellsT (y.ev st))) := by
 unfold eqsV; simp only [opW]
 cases eqL ks (cellsT (x.ev st)) (cellsT (y.ev st)) <;> simp [and_assoc]
@[simp] theorem eqsV_sF (x : Bool) (r : Bool) : eqsV st false x x K (some r) = K (val st (.b r)) := by simp [eqsV]
@[simp] theorem eqL_nil : eqL [] [] [] = some true := nrfl rfl
@[simp] theorem eqL_i (ks : List EK) (k : IntKind) (x y : Int) (us vs : List TV) : eqL (.i :: ks) (.i k x :: us) (.i k y :: vs) = (eqL ks us vs).bind fun r => some (decide (x = y) && r) := by simp [eqL, eqT]; rfl
def unV (st : St) (K : Eff → Prop) : UnOp → TV → Prop
 | .not, .b x => K (val st (.b (!x)))
 | .neg, .i k n => K (val st (.i k (k.wrap (0 - n))))
 | .neg, .f x => K (val st (.f (canon (Op.negFloat .f64 x))))
 | _, _ => False
@[simp] theorem opW_un (o : UnOp) (x : TOpd) : opW P st root (.un o x) K = unV st K o (x.ev st) := by unfold unV; simp only [opW]; rfl
@[simp] theorem unV_not (x : Bool) : unV st K .not (.b x) = K (val st (.b (!x))) := nrfl rfl
@[simp] theorem unV_negf (x : Nat) : unV st K .neg (.f x) = K (val st (.f (canon (Op.negFloat .f64 x)))) := nrfl rfl
def toIntV2 (st : St) (k : IntKind) (K : Eff → Prop) : Option Int → Prop
 | some n => k.min ≤ n ∧ n ≤ k.max ∧ K (val st (.i k n))
 | none => False
def toIntV (st : St) (k : IntKind) (K : Eff → Prop) : TV → Prop
 | .i _ n => K (val st (.i k (k.wrap n)))
 | .f b => toIntV2 st k K ((FloatKind.f64.decode b).toInt .zero)
 | _ => False
@[simp] theorem opW_toInt (k : IntKind) (x : TOpd) : opW P st root (.toInt k x) K = toIntV st k K (x.ev st) := by
 unfold toIntV toIntV2; simp only [opW] <;> rfl
@[simp] theorem toIntV_i (k k' : IntKind) (n : Int) : toIntV st k K (.i k' n) = K (val st (.i k (k.wrap n))) := nrfl rfl
def toFV (st : St) (K : Eff → Prop) : TV → Prop
 | .i _ n => K (val st (.f (canon (FloatKind.f64.nearest n))))
 | .f b => K (val st (.f b))
 | _ => False
@[simp] theorem opW_toF (x : TOpd) : opW P st root (.toF x) K = toFV st K (x.ev st) := by unfold toFV; simp only [opW] <;> rfl
@[simp] theorem toFV_i (k : IntKind) (n : Int) : toFV st K (.i k n) = K (val st (.f (canon (FloatKind.f64.nearest n)))) := nrfl rfl
def toSV (st : St) (K : Eff → Prop) : Option (List UInt8) → Prop
 | some bs => K (val st (.s ⟨bs.toArray⟩))
 | none => False
@[simp] theorem opW_toS (x : TOpd) : opW P st root (.toS x) K = toSV st K ((elemsOf st.H (x.ev st)).bind bytesT) := nrfl rfl
@[simp] theorem toSV_s (bs : List UInt8) : toSV st K (some bs) = K (val st (.s ⟨bs.toArray⟩)) := nrfl rfl
def mksV (st : St) (root z bytes : Nat) (zero : List TV) (K : Eff → Prop) : TV → TV → Prop
 | .i .i64 l, .i .i64 c => 0 ≤ l ∧ l = c ∧ bytes * l ≤ 2 ^ 47 ∧ st.H root = [] ∧ 2 ≤ root ∧ zero.length = z ∧ zero.all zeroOk = true ∧
    K { v := .rf [(root, 0)] 0 l.toNat, dead := none, H := setRoot st.H root [.sl true z (List.replicate l.toNat zero)], wr := [root], nr := some root }
 | _, _ => False
@[simp] theorem opW_mkslice (z bytes : Nat) (zero : List TV) (l c : TOpd) : opW P st root (.mkslice z bytes zero l c) K = mksV st root z bytes zero K (l.ev st) (c.ev st) := by unfold mksV; simp only [opW]; rfl
@[simp] theorem mksV_i (z bytes : Nat) (zero : List TV) (l : Int) : mksV st root z bytes zero K (.i .i64 l) (.i .i64 l) = (0 ≤ l ∧ bytes * l ≤ 2 ^ 47 ∧ st.H root = [] ∧ 2 ≤ root ∧ zero.length = z ∧ zero.all zeroOk = true ∧
    K ⟨.rf [(root, 0)] 0 l.toNat, none, setRoot st.H root [.sl true z (List.replicate l.toNat zero)], [root], some root, []⟩) := by simp [mksV]
def bndV (K : Int → Prop) : TV → Prop
 | .i _ n => K n
 | _ => False
@[simp] theorem bndV_i (Ki : Int → Prop) (k : IntKind) (n : Int) : bndV Ki (.i k n) = Ki n := nrfl rfl
@[simp] theorem optB_none (d : Int) (Ki : Int → Prop) : optB st d none Ki = Ki d := nrfl rfl
@[simp] theorem optB_some (d : Int) (x : TOpd) (Ki : Int → Prop) : optB st d (some x) Ki = bndV Ki (x.ev st) := by unfold bndV; simp only [optB]; rfl
def slcR (st : St) (z : Nat) (es : List (List TV)) (K : Eff → Prop) (l h : Int) : Prop := 0 ≤ l ∧ l ≤ h ∧ h ≤ es.length ∧ K (val st (.sl false z ((es.drop l.toNat).take (h.toNat - l.toNat))))
def slcO (st : St) (p : Path) (off len : Nat) (K : Eff → Prop) (l h : Int) : Prop := 0 ≤ l ∧ l ≤ h ∧ h ≤ len ∧ K (val st (.rf p (offE (off + l.toNat) (h.toNat - l.toNat)) (h.toNat - l.toNat)))
def slcN (st : St) (z : Nat) (K : Eff → Prop) (l h : Int) : Prop := l = 0 ∧ h = 0 ∧ K (val st (.sl true z []))
def bnd2 (st : St) (d1 d2 : Int) (lo hi : Option TOpd) (Kb : Int → Int → Prop) : Prop := optB st d1 lo fun l => optB st d2 hi (Kb l)
@[simp] theorem bnd2_ns (d1 d2 : Int) (y : TOpd) (Kb : Int → Int → Prop) : bnd2 st d1 d2 none (some y) Kb = bndV (Kb d1) (y.ev st) := by simp [bnd2]
def bndK (Kb : Int → Int → Prop) (d : Int) (l : Int) : Prop := Kb l d
@[simp] theorem bndK_app (Kb : Int → Int → Prop) (d l : Int) : bndK Kb d l = Kb l d := nrfl rfl
@[simp] theorem bnd2_sn (d1 d2 : Int) (x : TOpd) (Kb : Int → Int → Prop) : bnd2 st d1 d2 (some x) none Kb = bndV (bndK Kb d2) (x.ev st) := by unfold bnd2 bndK; simp only [optB_some, optB_none]
def sliceV (st : St) (z : Nat) (lo hi : Option TOpd) (K : Eff → Prop) : TV → Prop
 | .sl false z' es => z' = z ∧ bnd2 st 0 es.length lo hi (slcR st z' es K)
 | .sl true z' [] => bnd2 st 0 0 lo hi (slcN st z' K)
 | .rf p off len => (shapeAt st.H p).map (fun s => s.2.1) = some z ∧ bnd2 st 0 len lo hi (slcO st p off len K)
 | _ => False
@[simp] theorem opW_slice (z : Nat) (x : TOpd) (lo hi : Option TOpd) : opW P st root (.slice false z x lo hi) K = sliceV st z lo hi K (x.ev st) := by unfold sliceV; simp only [opW]; rfl
@[simp] theorem sliceV_r (z : Nat) (lo hi : Option TOpd) (es : List (List TV)) : sliceV st z lo hi K (.sl false z es) = bnd2 st 0 es.length lo hi (slcR st z es K) := by simp [sliceV]
@[simp] theorem sliceV_o (z : Nat) (lo hi : Option TOpd) (p : Path) (off len : Nat) : sliceV st z lo hi K (.rf p off len) = ((shapeAt st.H p).map (fun s => s.2.1) = some z ∧ bnd2 st 0 len lo hi (slcO st p off len K)) := nrfl rfl
@[simp] theorem slcR_app (z : Nat) (es : List (List TV)) (l h : Int) : slcR st z es K l h = (0 ≤ l ∧ l ≤ h ∧ h ≤ es.length ∧ K (val st (.sl false z ((es.drop l.toNat).take (h.toNat - l.toNat))))) := nrfl rfl
@[simp] theorem slcO_app (p : Path) (off len : Nat) (l h : Int) : slcO st p off len K l h = (0 ≤ l ∧ l ≤ h ∧ h ≤ len ∧ K (val st (.rf p (offE (off + l.toNat) (h.toNat - l.toNat)) (h.toNat - l.toNat)))) := nrfl rfl
def faddrV2 (st : St) (off n : Nat) (p : Path) (i f : Nat) (K : Eff → Prop) : Option (List TV) → Prop
 | some cs => f + off + n ≤ cs.length ∧ K (val st (.pt p i (f + off)))
 | none => False
def faddrV (st : St) (off n : Nat) (K : Eff → Prop) : TV → Prop
 | .pt p i f => faddrV2 st off n p i f K (rowAt st.H p i)
 | .po false cs => off + n ≤ cs.length ∧ K (val st (.po false ((cs.drop off).take n)))
 | _ => False
@[simp] theorem opW_faddr (off n : Nat) (x : TOpd) : opW P st root (.faddr off n x) K = faddrV st off n K (x.ev st) := by unfold faddrV faddrV2; simp only [opW] <;> rfl
@[simp] theorem faddrV_pt (off n : Nat) (p : Path) (i f : Nat) : faddrV st off n K (.pt p i f) = faddrV2 st off n p i f K (rowAt st.H p i) := nrfl rfl
@[simp] theorem faddrV_po (off n : Nat) (cs : List TV) : faddrV st off n K (.po false cs) = (off + n ≤ cs.length ∧ K (val st (.po false ((cs.drop off).take n)))) := nrfl rfl
@[simp] theorem faddrV2_s (off n : Nat) (p : Path) (i f : Nat) (cs : List TV) : faddrV2 st off n p i f K (some cs) = (f + off + n ≤ cs.length ∧ K (val st (.pt p i (f + off)))) := nrfl rfl
def iaddrV2 (st : St) (z z' : Nat) (K : Eff → Prop) : Option (List TV) → Prop
 | some e => z' = z ∧ K (val st (.po false e))
 | none => False
def iaddrV (st : St) (z : Nat) (K : Eff → Prop) : TV → TV → Prop
 | .sl false z' es, .i _ n => iaddrV2 st z z' K (if 0 ≤ n then es[n.toNat]? else none)
 | .rf p off len, .i _ n => 0 ≤ n ∧ n < len ∧ (shapeAt st.H p).map (fun s => s.2.1) = some z ∧ K (val st (.pt p (off + n.toNat) 0))
 | _, _ => False
@[simp] theorem opW_iaddr (z : Nat) (x i : TOpd) : opW P st root (.iaddr z x i) K = iaddrV st z K (x.ev st) (i.ev st) := by unfold iaddrV iaddrV2; simp only [opW]; rfl
@[simp] theorem iaddrV_r (z z' : Nat) (es : List (List TV)) (k : IntKind) (n : Int) : iaddrV st z K (.sl false z' es) (.i k n) = iaddrV2 st z z' K (if 0 ≤ n then es[n.toNat]? else none) := nrfl rfl
@[simp] theorem iaddrV_o (z : Nat) (p : Path) (off len : Nat) (k : IntKind) (n : Int) : iaddrV st z K (.rf p off len) (.i k n) = (0 ≤ n ∧ n < len ∧ (shapeAt st.H p).map (fun s => s.2.1) = some z ∧ K (val st (.pt p (off + n.toNat) 0))) := nrfl rfl
@[simp] theorem iaddrV2_s (z : Nat) (e : List TV) : iaddrV2 st z z K (some e) = K (val st (.po false e)) := by simp [iaddrV2]
def ixV2 (st : St) (K : Eff → Prop) : Option UInt8 → Prop
 | some b => K (val st (.i .u8 b.toNat))
 | none => False
def ixV (st : St) (K : Eff → Prop) : TV → TV → Prop
 | .s a, .i _ n => ixV2 st K (if 0 ≤ n then a[n.toNat]? else none)
 | _, _ => False
@[simp] theorem opW_ix (x i : TOpd) : opW P st root (.ix x i) K = ixV st K (x.ev st) (i.ev st) := by unfold ixV ixV2; simp only [opW]; rfl
@[simp] theorem ixV_s (a : ByteArray) (k : IntKind) (n : Int) : ixV st K (.s a) (.i k n) = ixV2 st K (if 0 ≤ n then a[n.toNat]? else none) := nrfl rfl
@[simp] theorem ixV2_s (b : UInt8) : ixV2 st K (some b) = K (val st (.i .u8 b.toNat)) := nrfl rfl
def optV (st : St) (K : Eff → Prop) : Option TV → Prop
 | some v => K (val st v)
 | none => False
def extV (st : St) (k : Nat) (K : Eff → Prop) : TV → Prop
 | .tu vs => optV st K vs[k]?
 | _ => False
@[simp] theorem opW_ext (k : Nat) (x : TOpd) : opW P st root (.ext k x) K = extV st k K (x.ev st) := by unfold extV optV; simp only [opW] <;> rfl
@[simp] theorem extV_tu (k : Nat) (vs : List TV) : extV st k K (.tu vs) = optV st K vs[k]? := nrfl rfl
@[simp] theorem optV_s (v : TV) : optV st K (some v) = K (val st v) := nrfl rfl
def lenV (st : St) (K : Eff → Prop) : Option Nat → Prop
 | some n => K (val st (.i .i64 n))
 | none => False
@[simp] theorem opW_len (str : Bool) (x : TOpd) : opW P st root (.len str x) K = lenV st K (lenT str (x.ev st)) := nrfl rfl
@[simp] theorem lenV_s (n : Nat) : lenV st K (some n) = K (val st (.i .i64 n)) := nrfl rfl
@[simp] theorem lenT_r (z : Nat) (es : List (List TV)) : lenT false (.sl false z es) = some es.length := nrfl rfl
@[simp] theorem lenT_o (p : Path) (off len : Nat) : lenT false (.rf p off len) = some len := nrfl rfl
@[simp] theorem lenT_s (a : ByteArray) : lenT true (.s a) = some a.size := nrfl rfl
def appV2 (st : St) (root z bytes : Nat) (z2 : Nat) (es2 : List (List TV)) (d1 : List Path) (K : Eff → Prop) : Option (TV × Hp × List Path) → Prop
 | some (.sl true z' es, H2, d2) => z' = z ∧ z2 = z ∧ freeR H2 root = true ∧ 2 ≤ root ∧ bytes * (es.length + es2.length) ≤ 2 ^ 47 ∧
     K { v := .rf [(root, 0)] 0 (es.length + es2.length), dead := deadU (d1 ++ d2), H := setRoot H2 root [.sl true z (es ++ es2)], wr := root :: (d1 ++ d2).filterMap (fun p => p.head?.map (·.1)), nr := some root }
 | _ => False
def appV (st : St) (root z bytes : Nat) (s : TV) (K : Eff → Prop) : Option (Nat × List (List TV) × Hp × List Path) → Prop
 | some (z2, es2, H1, d1) => appV2 st root z bytes z2 es2 d1 K (take1 H1 s)
 | none => False
@[simp] theorem opW_app (z bytes : Nat) (s x : TOpd) : opW P st root (.app z bytes s x) K = appV st root z bytes (s.ev st) K (srcT st.H (x.ev st)) := by
 unfold appV appV2; simp only [opW, deadU]; rfl
@[simp] theorem appV_s (z bytes : Nat) (s : TV) (z2 : Nat) (es2 : List (List TV)) (H1 : Hp) (d1 : List Path) : appV st root z bytes s K (some (z2, es2, H1, d1)) = appV2 st root z bytes z2 es2 d1 K (take1 H1 s) := nrfl rfl
@[simp] theorem appV2_s (z bytes : Nat) (es2 es : List (List TV)) (H2 : Hp) (d1 d2 : List Path) : appV2 st root z bytes z es2 d1 K (some (.sl true z es, H2, d2)) = (freeR H2 root = true ∧ 2 ≤ root ∧ bytes * (es.length + es2.length) ≤ 2 ^ 47 ∧
     K ⟨.rf [(root, 0)] 0 (es.length + es2.length), deadU (d1 ++ d2), setRoot H2 root [.sl true z (es ++ es2)], root :: (d1 ++ d2).filterMap (fun p => p.head?.map (·.1)), some root, []⟩) := by
 simp [appV2]
@[simp] theorem freeR_eq (H : Hp) (r : Nat) : freeR H r = (H r).all isJ := nrfl rfl
attribute [simp] isJ
@[simp] theorem opW_call (g : FuncId) (args : List (TOpd × Nat)) : opW P st root (.call g args) K = callW P st root g (args.map fun x => (x.1.ev st, x.2)) K := nrfl rfl
end
def cutV1 (H : Hp) (p : Path) (off len : Nat) : Option TV → Option (TV × Hp × List Path)
 | some (.sl true z es) => some (.sl true z ((es.drop off).take len), modH H (fun _ => .junk) p, [p])
 | _ => none
def cutP1 (H : Hp) (p : Path) : Option TV → Option (TV × Hp × List Path)
 | some (.po true cs) => some (.po true cs, modH H (fun _ => .junk) p, [p])
 | _ => none
section
variable {H : Hp}
@[simp] theorem take1_o (p : Path) (off len : Nat) : take1 H (.rf p off len) = cutV1 H p off len (cellAt H p) := by unfold cutV1; simp only [take1]; rfl
@[simp] theorem take1_p (p : Path) : take1 H (.pt p 0 0) = cutP1 H p (cellAt H p) := by unfold cutP1; simp only [take1]; rfl
@[simp] theorem cutV1_s (p : Path) (off len z : Nat) (es : List (List TV)) : cutV1 H p off len (some (.sl true z es)) = some (.sl true z ((es.drop off).take len), modH H (fun _ => .junk) p, [p]) := nrfl rfl
@[simp] theorem cutP1_s (p : Path) (cs : List TV) : cutP1 H p (some (.po true cs)) = some (.po true cs, modH H (fun _ => .junk) p, [p]) := nrfl rfl
@[simp] theorem take1_n (z : Nat) : take1 H (.sl true z []) = some (.sl true z [], H, []) := nrfl rfl
@[simp] theorem take1_i (k : IntKind) (n : Int) : take1 H (.i k n) = some (.i k n, H, []) := nrfl rfl
@[simp] theorem take1_b (x : Bool) : take1 H (.b x) = some (.b x, H, []) := nrfl rfl
@[simp] theorem take1_f (x : Nat) : take1 H (.f x) = some (.f x, H, []) := nrfl rfl
@[simp] theorem take1_s (x : ByteArray) : take1 H (.s x) = some (.s x, H, []) := nrfl rfl
@[simp] theorem take1_np : take1 H .np = some (.np, H, []) := nrfl rfl
@[simp] theorem take1_r (z : Nat) (es : List (List TV)) : take1 H (.sl false z es) = some (.sl false z es, H, []) := nrfl rfl
def takeL2 (cs : List TV) : Option (TV × Hp × List Path) → Option (List TV × Hp × List Path)
 | some (u, H1, d) => (takeL cs H1).bind fun y => some (u :: y.1, y.2.1, d ++ y.2.2)
 | none => none
@[simp] theorem takeL_nil' : takeL [] H = some ([], H, []) := nrfl rfl
@[simp] theorem takeL_cons' (c : TV) (cs : List TV) : takeL (c :: cs) H = takeL2 cs (take1 H c) := by
 unfold takeL2; simp only [takeL]; cases take1 H c <;> rfl
@[simp] theorem takeL2_s (cs : List TV) (u : TV) (H1 : Hp) (d : List Path) : takeL2 cs (some (u, H1, d)) = (takeL cs H1).bind fun y => some (u :: y.1, y.2.1, d ++ y.2.2) := nrfl rfl
attribute [simp] rowAt rows shapeAt shape cellAt down kid modd upk putL killT killL
@[simp] theorem under_nil (q : Path) : under [] q = false := nrfl rfl
@[simp] theorem under_cons (p : Path) (ds : List Path) (q : Path) : under (p :: ds) q = (p.isPrefixOf q || under ds q) := nrfl rfl
@[simp] theorem stU_app (ds : List Path) (p : Path) (i f n : Nat) (q : Path) : stU ds p i f n q = (under ds q || under ((List.range n).map fun j => p ++ [(i, f + j)]) q) := nrfl rfl
@[simp] theorem beq_pr (a b c d : Nat) : ((a, b) == (c, d)) = (decide (a = c) && decide (b = d)) := nrfl rfl
@[simp] theorem range2 : List.range 2 = [0, 1] := nrfl rfl
@[simp] theorem range3 : List.range 3 = [0, 1, 2] := nrfl rfl
@[simp] theorem range4 : List.range 4 = [0, 1, 2, 3] := nrfl rfl
end
end Go.Proofs.YtmedelmfkciblaaT


namespace Go.Proofs.YtmedelmfkciblaaT
set_option linter.unusedVariables false
set_option linter.unusedSimpArgs false
open Go
section
variable {P : Program} {st st' : St} {root : Nat} {H H' H1 : Hp} {E : Eff}
theorem rootsL_eq (us : List TV) : rootsL us = us.flatMap rootsT := by
 induction us with
 | nil => rfl
 | cons u us ih => simp [rootsL, ih]
theorem rootsL_app (us vs : List TV) : rootsL (us ++ vs) = rootsL us ++ rootsL vs := by simp [rootsL_eq]
theorem rootsL_mem {us : List TV} {r : Nat} : r ∈ rootsL us ↔ ∃ u ∈ us, r ∈ rootsT u := by simp [rootsL_eq]
def Agree (rs : List Nat) (H H' : Hp) : Prop := ∀ r ∈ rs, H' r = H r
theorem Agree.mono {rs rs' : List Nat} (h : Agree rs H H') (hs : ∀ r ∈ rs', r ∈ rs) : Agree rs' H H' := fun r hr => h r (hs r hr)
def Mix (rs : List Nat) (H1 H' H1' : Hp) : Prop := ∀ r, (r ∈ rs → H1' r = H1 r) ∧ (r ∉ rs → H1' r = H' r)
def pr (p : Path) : List Nat := (p.head?.map (·.1)).toList
@[simp] theorem pr_cons (s : Nat × Nat) (p : Path) : pr (s :: p) = [s.1] := rfl
@[simp] theorem pr_nil : pr [] = [] := rfl
theorem cellAt_loc {p : Path} (h : Agree (pr p) H H') : cellAt H' p = cellAt H p := by
 cases p with
 | nil => rfl
 | cons s r => simp only [cellAt]; rw [h s.1 (by simp)]
theorem rowAt_loc {p : Path} {i : Nat} (h : Agree (pr p) H H') : rowAt H' p i = rowAt H p i := by simp only [rowAt, cellAt_loc h]
theorem shapeAt_loc {p : Path} (h : Agree (pr p) H H') : shapeAt H' p = shapeAt H p := by simp only [shapeAt, cellAt_loc h]
theorem modH_mix {p : Path} {φ : TV → TV} (h : Agree (pr p) H H') : Mix (pr p) (modH H φ p) H' (modH H' φ p) := by
 intro r
 cases p with
 | nil => exact ⟨fun h => by simp at h, fun _ => rfl⟩
 | cons s t =>
  simp only [pr_cons, List.mem_singleton, modH]
  refine ⟨fun hr => ?_, fun hr => by simp [hr]⟩
  subst hr
  simp only [if_true]; rw [h s.1 (by simp)]
theorem modH_off {p : Path} {φ : TV → TV} {r : Nat} (h : r ∉ pr p) : modH H φ p r = H r := by
 cases p with
 | nil => rfl
 | cons s t => simp only [pr_cons, List.mem_singleton] at h; simp [modH, h]
def prs (d : List Path) : List Nat := d.filterMap fun p => p.head?.map (·.1)
theorem prs_app (d d2 : List Path) : prs (d ++ d2) = prs d ++ prs d2 := by simp [prs]
@[simp] theorem prs_nil : prs [] = [] := rfl
@[simp] theorem prs_cons (s : Nat × Nat) (t : Path) (d : List Path) : prs ((s :: t) :: d) = s.1 :: prs d := rfl
structure TakeLoc (H H' H1 : Hp) (d : List Path) (H1' : Hp) : Prop where
 mix : Mix (prs d) H1 H' H1'
 off : ∀ r, r ∉ prs d → H1 r = H r
 ne : ∀ p ∈ d, p ≠ []
theorem prs_mem {d : List Path} {s : Nat × Nat} {t : Path} (h : (s :: t) ∈ d) : s.1 ∈ prs d := List.mem_filterMap.2 ⟨_, h, rfl⟩
theorem take1_loc {c u : TV} {d : List Path} (h : take1 H c = some (u, H1, d)) (ha : Agree (rootsT c) H H') : ∃ H1', take1 H' c = some (u, H1', d) ∧ TakeLoc H H' H1 d H1' ∧ ∀ r ∈ prs d, r ∈ rootsT c := by
 have pureCase : (∀ G, take1 G c = some (c, G, [])) → ∃ H1', take1 H' c = some (u, H1', d) ∧ TakeLoc H H' H1 d H1' ∧ ∀ r ∈ prs d, r ∈ rootsT c := by
  intro hg
  rw [hg H] at h
  simp only [Option.some.injEq, Prod.mk.injEq] at h
  obtain ⟨rfl, rfl, rfl⟩ := h
  exact ⟨H', hg H', ⟨fun r => ⟨fun hr => by simp at hr, fun _ => rfl⟩, fun _ _ => rfl, by simp⟩, by simp⟩
 have nodeCase : ∀ (p : Path) (x : TV), rootsT c = pr p → cellAt H p = some x → H1 = modH H (fun _ => .junk) p → d = [p] → take1 H' c = some (u, modH H' (fun _ => .junk) p, [p]) → ∃ H1', take1 H' c = some (u, H1', d) ∧ TakeLoc H H' H1 d H1' ∧ ∀ r ∈ prs d, r ∈ rootsT c := by
  rintro p x hr hx rfl rfl ht
  rw [hr] at ha ⊢
  have e : prs [p] = pr p := by cases p <;> rfl
  refine ⟨_, ht, ⟨by rw [e]; exact modH_mix ha, fun r hr => modH_off (by rw [← e]; exact hr), fun q hq => ?_⟩, fun r hr => by rw [e] at hr; exact hr⟩
  simp only [List.mem_singleton] at hq; subst hq
  rintro rfl; cases hx
 cases c with
 | rf p off len =>
  have e : rootsT (.rf p off len) = pr p := rfl
  simp only [take1] at h
  split at h
  case h_2 => cases h
  rename_i z es hx
  simp only [Option.some.injEq, Prod.mk.injEq] at h
  obtain ⟨rfl, rfl, rfl⟩ := h
  exact nodeCase p _ e hx rfl rfl (by simp only [take1]; rw [cellAt_loc (by rw [← e]; exact ha), hx])
 | pt p i f =>
  have e : rootsT (.pt p i f) = pr p := rfl
  cases i with
  | succ i => simp [take1, noref] at h
  | zero =>
   cases f with
   | succ f => simp [take1, noref] at h
   | zero =>
    simp only [take1] at h
    split at h
    case h_2 => cases h
    rename_i cs hx
    simp only [Option.some.injEq, Prod.mk.injEq] at h
    obtain ⟨rfl, rfl, rfl⟩ := h
    exact nodeCase p _ e hx rfl rfl (by simp only [take1]; rw [cellAt_loc (by rw [← e]; exact ha), hx])
 | sl o z es =>
  cases o with
  | false => exact pureCase fun G => rfl
  | true =>
   cases es with
   | nil => exact pureCase fun G => rfl
   | cons e es => simp [take1, noref] at h
 | po o cs =>
  cases o with
  | false => exact pureCase fun G => rfl
  | true => simp [take1, noref] at h
 | ag cs => simp [take1, noref] at h
 | tu cs => simp [take1, noref] at h
 | junk => simp [take1, noref] at h
 | fn g cs =>
  have hn : noref (.fn g cs) = true := by
   simp only [take1] at h
   split at h
   ·assumption
   ·cases h
  exact pureCase fun G => by simp only [take1, hn, if_true]
 | _ => exact pureCase fun G => rfl
theorem TakeLoc.trans {H2 H1' H2' : Hp} {d d2 : List Path} (h : TakeLoc H H' H1 d H1') (h2 : TakeLoc H1 H1' H2 d2 H2') : TakeLoc H H' H2 (d ++ d2) H2' := by
 obtain ⟨a1, a2, a3⟩ := h
 obtain ⟨b1, b2, b3⟩ := h2
 refine ⟨fun r => ⟨fun hr => ?_, fun hr => ?_⟩, fun r hr => ?_, fun p hp => ?_⟩
 ·rw [prs_app] at hr
  by_cases h2 : r ∈ prs d2
  ·exact (b1 r).1 h2
  ·rw [(b1 r).2 h2, b2 r h2]
   rcases List.mem_append.1 hr with h | h
   ·exact (a1 r).1 h
   ·exact absurd h h2
 ·rw [prs_app] at hr
  simp only [List.mem_append, not_or] at hr
  rw [(b1 r).2 hr.2, (a1 r).2 hr.1]
 ·rw [prs_app] at hr
  simp only [List.mem_append, not_or] at hr
  rw [b2 r hr.2, a2 r hr.1]
 ·rcases List.mem_append.1 hp with hp | hp
  ·exact a3 p hp
  ·exact b3 p hp
theorem TakeLoc.agree {rs2 : List Nat} {d : List Path} {H1' : Hp} (h : TakeLoc H H' H1 d H1') (ha : Agree rs2 H H') : Agree rs2 H1 H1' := by
 intro r hr
 by_cases h1 : r ∈ prs d
 ·exact (h.mix r).1 h1
 ·rw [(h.mix r).2 h1, ha r hr, h.off r h1]
theorem TakeLoc.refl : TakeLoc H H' H [] H' := ⟨fun r => ⟨fun h => by simp at h, fun _ => rfl⟩, fun _ _ => rfl, by simp⟩
theorem takeL_loc : ∀ {cs us : List TV} {H H' H1 : Hp} {d : List Path}, takeL cs H = some (us, H1, d) → Agree (rootsL cs) H H' → ∃ H1', takeL cs H' = some (us, H1', d) ∧ TakeLoc H H' H1 d H1' ∧ ∀ r ∈ prs d, r ∈ rootsL cs
 | [], us, H, H', H1, d, h, ha => by
  simp only [takeL, Option.some.injEq, Prod.mk.injEq] at h
  obtain ⟨rfl, rfl, rfl⟩ := h
  exact ⟨H', rfl, .refl, by simp⟩
 | c :: cs, us, H, H', H1, d, h, ha => by
  simp only [takeL, Option.bind_eq_some_iff, Option.some.injEq, Prod.mk.injEq] at h
  obtain ⟨⟨u, H2, d2⟩, h1, ⟨us', H3, d3⟩, h2, rfl, rfl, rfl⟩ := h
  obtain ⟨H2', g1, g2, g5⟩ := take1_loc h1 (ha.mono fun r hr => by simp [rootsL, hr])
  obtain ⟨H3', g3, g4, g6⟩ := takeL_loc h2 (g2.agree (ha.mono fun r hr => by simp [rootsL, hr]))
  refine ⟨H3', by simp [takeL, g1, g3], g2.trans g4, fun r hr => ?_⟩
  rw [prs_app] at hr
  simp only [rootsL, List.mem_append] at hr ⊢
  exact hr.imp (g5 r) (g6 r)
mutual
theorem noref_rootsT : ∀ u : TV, noref u = true → rootsT u = []
 | .fn g cs, h => by simp only [noref] at h; simp only [rootsT]; exact noref_rootsL cs h
 | .rf .., h => by cases h
 | .pt .., h => by cases h
 | .ag _, h => by cases h
 | .tu _, h => by cases h
 | .junk, h => by cases h
 | .b _, _ => rfl
 | .i _ _, _ => rfl
 | .f _, _ => rfl
 | .s _, _ => rfl
 | .np, _ => rfl
 | .pin _, _ => rfl
 | .sl _ _ _, _ => rfl
 | .po _ _, _ => rfl
theorem noref_rootsL : ∀ us : List TV, norefL us = true → rootsL us = []
 | [], _ => rfl
 | u :: us, h => by
  simp only [norefL, Bool.and_eq_true] at h
  simp only [rootsL]; rw [noref_rootsT u h.1, noref_rootsL us h.2]; rfl
end
theorem rootsT_toRef (s : Nat × Nat) (t : Path) (u : TV) : ∀ r ∈ rootsT (toRef (s :: t) u), r = s.1 := by
 intro r hr
 cases u with
 | sl o z es =>
  cases o with
  | true => simpa [toRef, rootsT] using hr
  | false => simp [toRef, rootsT] at hr
 | po o cs =>
  cases o with
  | true => simpa [toRef, rootsT] using hr
  | false => simp [toRef, rootsT] at hr
 | fn g cs =>
  simp only [toRef] at hr
  split at hr
  ·rename_i h
   have := noref_rootsL cs h
   simp [rootsT, this] at hr
  ·simp [rootsT] at hr
 | _ => simp [toRef, rootsT] at hr
theorem rootsL_refs (s : Nat × Nat) (t : Path) (i : Nat) : ∀ (cs : List TV) (f : Nat), ∀ r ∈ rootsL (refsFrom (s :: t) i f cs), r = s.1
 | [], f, r, h => by simp [refsFrom, rootsL] at h
 | u :: us, f, r, h => by
  simp only [refsFrom, rootsL, List.mem_append] at h
  rcases h with h | h
  ·exact rootsT_toRef s (t ++ [(i, f)]) u r h
  ·exact rootsL_refs s t i us (f + 1) r h
theorem takeRows_loc {s : Nat × Nat} {t : Path} : ∀ {es es' : List (List TV)} {i : Nat} {H H' H1 : Hp} {d : List Path}, takeRows (s :: t) i es H = some (es', H1, d) → Agree [s.1] H H' →
  ∃ H1', takeRows (s :: t) i es H' = some (es', H1', d) ∧ TakeLoc H H' H1 d H1' ∧ ∀ r ∈ prs d, r = s.1
 | [], es', i, H, H', H1, d, h, ha => by
  simp only [takeRows, Option.some.injEq, Prod.mk.injEq] at h
  obtain ⟨rfl, rfl, rfl⟩ := h
  exact ⟨H', rfl, .refl, by simp⟩
 | e :: es, es', i, H, H', H1, d, h, ha => by
  simp only [takeRows, Option.bind_eq_some_iff, Option.some.injEq, Prod.mk.injEq] at h
  obtain ⟨⟨u, H2, d2⟩, h1, ⟨us', H3, d3⟩, h2, rfl, rfl, rfl⟩ := h
  obtain ⟨H2', g1, g2, g5⟩ := takeL_loc h1 (ha.mono fun r hr => by simp [rootsL_refs s t i e 0 r hr])
  obtain ⟨H3', g3, g4, g6⟩ := takeRows_loc h2 (g2.agree ha)
  refine ⟨H3', by simp [takeRows, g1, g3], g2.trans g4, fun r hr => ?_⟩
  rw [prs_app] at hr
  rcases List.mem_append.1 hr with hr | hr
  ·exact rootsL_refs s t i e 0 r (g5 r hr)
  ·exact g6 r hr
theorem srcT_loc {x : TV} {z : Nat} {es : List (List TV)} {d : List Path} (h : srcT H x = some (z, es, H1, d)) (ha : Agree (rootsT x) H H') :
  ∃ H1', srcT H' x = some (z, es, H1', d) ∧ TakeLoc H H' H1 d H1' ∧ ∀ r ∈ prs d, r ∈ rootsT x := by
 unfold srcT at h ⊢
 split at h
 ·rename_i p off len
  have e : rootsT (.rf p off len) = pr p := rfl
  rw [e] at ha
  rw [cellAt_loc ha]
  split at h
  case h_2 => cases h
  rename_i z' es0 hc
  split at h
  ·rename_i hn
   simp only [Option.some.injEq, Prod.mk.injEq] at h
   obtain ⟨rfl, rfl, rfl, rfl⟩ := h
   rw [if_pos hn]
   exact ⟨H', rfl, .refl, by simp⟩
  ·rename_i hn
   rw [if_neg hn]
   simp only [Option.map_eq_some_iff, Prod.mk.injEq] at h
   obtain ⟨⟨es', H5, d5⟩, ht, rfl, rfl, rfl, rfl⟩ := h
   cases p with
   | nil => cases hc
   | cons s t =>
    obtain ⟨H1', g1, g2, g3⟩ := takeRows_loc ht (by simpa using ha)
    exact ⟨H1', by simp [g1], g2, fun r hr => by simp [rootsT, g3 r hr]⟩
 ·split at h
  case isFalse => cases h
  rename_i hn
  rw [if_pos hn]
  simp only [Option.some.injEq, Prod.mk.injEq] at h
  obtain ⟨rfl, rfl, rfl, rfl⟩ := h
  exact ⟨H', rfl, .refl, by simp⟩
 ·simp only [Option.some.injEq, Prod.mk.injEq] at h
  obtain ⟨rfl, rfl, rfl, rfl⟩ := h
  exact ⟨H', rfl, .refl, by simp⟩
 ·cases h
mutual
theorem roT_loc : ∀ (u : TV) (n : Nat), Agree (rootsT u) H H' → roT H' n u = roT H n u
 | .rf p off len, n, h => by
  have h : Agree (pr p) H H' := h
  simp only [roT, cellAt_loc h]
 | .pt p i f, n, h => by
  have h : Agree (pr p) H H' := h
  simp only [roT, rowAt_loc h]
 | .ag cs, n, h => by simp only [roT]; rw [roL_loc cs n h]
 | .fn g cs, n, h => by simp only [roT]; rw [roL_loc cs 0 h]
 | .tu _, _, _ => rfl
 | .b _, _, _ => rfl
 | .i _ _, _, _ => rfl
 | .f _, _, _ => rfl
 | .s _, _, _ => rfl
 | .np, _, _ => rfl
 | .sl true _ [], _, _ => rfl
 | .sl true _ (_ :: _), _, _ => rfl
 | .sl false _ _, _, _ => rfl
 | .po true _, _, _ => rfl
 | .po false _, _, _ => rfl
 | .junk, _, _ => rfl
 | .pin _, _, _ => rfl
theorem roL_loc : ∀ (us : List TV) (n : Nat), Agree (rootsL us) H H' → roL H' n us = roL H n us
 | [], _, _ => rfl
 | u :: us, n, h => by
  simp only [roL]
  rw [roT_loc u n (h.mono fun r hr => by simp [rootsL, hr]), roL_loc us n (h.mono fun r hr => by simp [rootsL, hr])]
end
theorem takeArgs_loc : ∀ {ms : List Mode} {as : List (TV × Nat)} {H H' H1 : Hp} {tk : List TV} {ds : List Path} {ps : List (Option Path)}, takeArgs H ms as = some (tk, H1, ds, ps) → Agree (rootsL (as.map (·.1))) H H' →
  ∃ H1', takeArgs H' ms as = some (tk, H1', ds, ps) ∧ TakeLoc H H' H1 ds H1' ∧ (∀ r ∈ prs ds, r ∈ rootsL (as.map (·.1)))
 | [], [], H, H', H1, tk, ds, ps, h, ha => by
  simp only [takeArgs, Option.some.injEq, Prod.mk.injEq] at h
  obtain ⟨rfl, rfl, rfl, rfl⟩ := h
  exact ⟨H', rfl, .refl, by simp⟩
 | .ro :: ms, (u, n) :: as, H, H', H1, tk, ds, ps, h, ha => by
  simp only [takeArgs, Option.bind_eq_some_iff, Option.some.injEq, Prod.mk.injEq] at h
  obtain ⟨⟨tk', H2, ds', ps'⟩, h1, rfl, rfl, rfl, rfl⟩ := h
  obtain ⟨H1', g1, g2, g3⟩ := takeArgs_loc h1 (ha.mono fun r hr => by simp [rootsL, hr])
  exact ⟨H1', by simp [takeArgs, g1], g2, fun r hr => by simp [rootsL, g3 r hr]⟩
 | .own :: ms, (u, n) :: as, H, H', H1, tk, ds, ps, h, ha => by
  simp only [takeArgs, Option.bind_eq_some_iff, Option.some.injEq, Prod.mk.injEq] at h
  obtain ⟨⟨us, H2, d2⟩, h1, ⟨tk', H3, ds', ps'⟩, h2, rfl, rfl, rfl, rfl⟩ := h
  have hru : ∀ r ∈ rootsL (cellsT u), r ∈ rootsT u := by
   intro r hr
   cases u <;> first | exact hr | simpa [cellsT, rootsL] using hr
  obtain ⟨H2', g1, g2, g5⟩ := takeL_loc h1 (ha.mono fun r hr => by simp [rootsL, hru r hr])
  obtain ⟨H3', g3, g4, g6⟩ := takeArgs_loc h2 (g2.agree (ha.mono fun r hr => by simp [rootsL, hr]))
  refine ⟨H3', by simp only [takeArgs, g1, Option.bind_some, g3], g2.trans g4, fun r hr => ?_⟩
  rw [prs_app] at hr
  simp only [List.map_cons, rootsL, List.mem_append]
  rcases List.mem_append.1 hr with hr | hr
  ·exact .inl (hru r (g5 r hr))
  ·exact .inr (g6 r hr)
 | [], _ :: _, _, _, _, _, _, _, h, _ => by simp [takeArgs] at h
 | m :: _, [], _, _, _, _, _, _, h, _ => by cases m <;> simp [takeArgs] at h
theorem roArgs_loc : ∀ {ms : List Mode} {as : List (TV × Nat)} {tk : List TV} {H H' : Hp}, Agree (rootsL (as.map (·.1))) H H' → roArgs H' ms as tk = roArgs H ms as tk
 | [], [], [], _, _, _ => rfl
 | .ro :: ms, (u, n) :: as, t :: tk, H, H', h => by
  simp only [roArgs]
  rw [roT_loc u n (h.mono fun r hr => by simp [rootsL, hr]), roArgs_loc (h.mono fun r hr => by simp [rootsL, hr])]
 | .own :: ms, (u, n) :: as, t :: tk, H, H', h => by
  simp only [roArgs]
  rw [roArgs_loc (h.mono fun r hr => by simp [rootsL, hr])]
 | [], _ :: _, _, _, _, _ => by simp [roArgs]
 | [], [], _ :: _, _, _, _ => by simp [roArgs]
 | m :: _, [], _, _, _, _ => by cases m <;> simp [roArgs]
 | m :: _, _ :: _, [], _, _, _ => by cases m <;> simp [roArgs]
theorem backOk_loc {G G1 G' G1' : Hp} : ∀ {ps : List (Option Path)} {os : List (Option TV)}, (∀ p, some p ∈ ps → Agree (pr p) G G' ∧ Agree (pr p) G1 G1') → backOk G G1 ps os → backOk G' G1' ps os
 | some p :: ps, some u :: os, ha, h => by
  obtain ⟨⟨h1, h2, h3⟩, h4⟩ := h
  obtain ⟨a1, a2⟩ := ha p (by simp)
  exact ⟨⟨by rw [shapeAt_loc a1]; exact h1, by rw [cellAt_loc a2]; exact h2, h3⟩, backOk_loc (fun p hp => ha p (List.mem_cons_of_mem _ hp)) h4⟩
 | none :: ps, some u :: os, ha, h => backOk_loc (ps := ps) (os := os) (fun p hp => ha p (List.mem_cons_of_mem _ hp)) h
 | some p :: ps, none :: os, ha, h => backOk_loc (ps := ps) (os := os) (fun p hp => ha p (List.mem_cons_of_mem _ hp)) h
 | none :: ps, none :: os, ha, h => backOk_loc (ps := ps) (os := os) (fun p hp => ha p (List.mem_cons_of_mem _ hp)) h
 | [], [], _, _ => trivial
 | [], _ :: _, _, h => by simp [backOk] at h
 | some _ :: _, [], _, h => by simp [backOk] at h
 | none :: _, [], _, h => by simp [backOk] at h
theorem putBack_loc {d : List Path} : ∀ {bks : List (Option Path)} {us : List TV} {H H' H1 H1' : Hp}, TakeLoc H H' H1 d H1' → (∀ p, some p ∈ bks → p ∈ d) → TakeLoc H H' (putBack H1 bks us) d (putBack H1' bks us)
 | [], us, H, H', H1, H1', h, _ => by simpa [putBack] using h
 | none :: bks, [], H, H', H1, H1', h, _ => by simpa [putBack] using h
 | some p :: bks, [], H, H', H1, H1', h, _ => by simpa [putBack] using h
 | none :: bks, u :: us, H, H', H1, H1', h, hb => by
  simp only [putBack]
  exact putBack_loc h fun p hp => hb p (List.mem_cons_of_mem _ hp)
 | some p :: bks, u :: us, H, H', H1, H1', h, hb => by
  simp only [putBack]
  refine putBack_loc ?_ fun p hp => hb p (List.mem_cons_of_mem _ hp)
  have hp := hb p (by simp)
  have hne := h.ne p hp
  cases p with
  | nil => exact absurd rfl hne
  | cons s t =>
   have hs := prs_mem hp
   refine ⟨fun r => ⟨fun hr => ?_, fun hr => ?_⟩, fun r hr => ?_, h.ne⟩
   ·simp only [modH]
    split
    ·rename_i h2; subst h2; rw [(h.mix s.1).1 hs]
    ·exact (h.mix r).1 hr
   ·have : r ∉ pr (s :: t) := by simp; rintro rfl; exact hr hs
    rw [modH_off this]; exact (h.mix r).2 hr
   ·have : r ∉ pr (s :: t) := by simp; rintro rfl; exact hr hs
    rw [modH_off this]; exact h.off r hr
end
end Go.Proofs.YtmedelmfkciblaaT


namespace Go.Proofs.YtmedelmfkciblaaT
set_option linter.unusedVariables false
set_option linter.unusedSimpArgs false
open Go
section
variable {P : Program} {st st' : St} {root : Nat} {H H' H1 : Hp} {E : Eff} {op : TOp}
structure AgrS (st st' : St) (op : TOp) (root : Nat) : Prop where
 t : SameT st st' op
 H : Agree (rootsL (opT st op)) st.H st'.H
 root : st'.H root = st.H root
 org : ∀ (s : Nat × Nat) (t : Path), s.1 ∈ rootsL (opT st op) → st'.org (s :: t) = st.org (s :: t)
structure LocE (st st' : St) (E E' : Eff) : Prop where
 v : E'.v = E.v
 dead : E'.dead = E.dead
 nr : E'.nr = E.nr
 norg : E'.norg = E.norg
 wr : E'.wr = E.wr
 mix : Mix E.wr E.H st'.H E'.H
 off : ∀ r, r ∉ E.wr → E.H r = st.H r
 nrw : ∀ r, E.nr = some r → r ∈ E.wr
 ded : ∀ q, deadB E.dead q = true → ∃ s t, q = s :: t ∧ s.1 ∈ E.wr
theorem LocE.val (v : TV) : LocE st st' (Go.Proofs.YtmedelmfkciblaaT.val st v) (Go.Proofs.YtmedelmfkciblaaT.val st' v) :=
 ⟨rfl, rfl, rfl, rfl, rfl, fun r => ⟨fun h => by simp [Go.Proofs.YtmedelmfkciblaaT.val] at h, fun _ => rfl⟩, fun _ _ => rfl, fun r h => by simp [Go.Proofs.YtmedelmfkciblaaT.val] at h, fun q h => by simp [Go.Proofs.YtmedelmfkciblaaT.val, deadB] at h⟩
theorem ev_loc {x : TOpd} (h : ∀ k ∈ x.tm, st'.t k = st.t k) : x.ev st' = x.ev st := by
 cases x with
 | t n => exact h n (by simp [TOpd.tm])
 | c v => rfl
theorem loc_val (h : ∃ v, E = val st v ∧ opW P st' root op (· = val st' v)) : ∃ E', opW P st' root op (· = E') ∧ LocE st st' E E' := by
 obtain ⟨v, rfl, h⟩ := h
 exact ⟨_, h, LocE.val v⟩
theorem optB_loc {d : Int} {x : Option TOpd} {K : Int → Prop} (h : ∀ k ∈ tmsO x, st'.t k = st.t k) : optB st' d x K = optB st d x K := by
 cases x with
 | none => rfl
 | some x => simp only [optB]; rw [ev_loc (by simpa [tmsO] using h)]
theorem deadU_in {ds : List Path} {q : Path} {rs : List Nat} (h : deadB (if ds = [] then none else some (under ds)) q = true) (hne : ∀ p ∈ ds, p ≠ []) (hs : ∀ r ∈ prs ds, r ∈ rs) : ∃ s t, q = s :: t ∧ s.1 ∈ rs := by
 split at h
 ·simp [deadB] at h
 ·simp only [deadB] at h
  obtain ⟨p, h1, h2⟩ := List.any_eq_true.1 h
  have hp := List.isPrefixOf_iff_prefix.1 h2
  cases p with
  | nil => exact absurd rfl (hne _ h1)
  | cons s t =>
   obtain ⟨r, rfl⟩ := hp
   exact ⟨s, t ++ r, rfl, hs _ (prs_mem h1)⟩
theorem norgOf_loc {c : TV} (ha : Agree (rootsT c) st.H st'.H) (ho : ∀ (s : Nat × Nat) (t : Path), s.1 ∈ rootsT c → st'.org (s :: t) = st.org (s :: t)) : norgOf st' c = norgOf st c := by
 have key : ∀ p, rootsT c = pr p → shapeAt st'.H p = shapeAt st.H p ∧ ((shapeAt st.H p).isSome = true → orgOf st' p = orgOf st p) := by
  intro p hp
  rw [hp] at ha ho
  refine ⟨shapeAt_loc ha, fun hs => ?_⟩
  cases p with
  | nil => simp [shapeAt, cellAt] at hs
  | cons s t =>
   have := ho s t (by simp)
   unfold orgOf
   cases t with
   | nil => simp only; rw [this]
   | cons => exact this
 unfold norgOf
 split
 ·rename_i p len
  obtain ⟨h1, h2⟩ := key p rfl
  rw [h1]
  split
  ·rename_i hs
   exact h2 (by cases hh : shapeAt st.H p with
    | none => rw [hh] at hs; cases hs
    | some x => rfl)
  ·rfl
 ·rename_i p
  obtain ⟨h1, h2⟩ := key p rfl
  rw [h1]
  split
  ·rename_i hs
   exact h2 (by cases hh : shapeAt st.H p with
    | none => rw [hh] at hs; cases hs
    | some x => rfl)
  ·rfl
 ·rfl
theorem loc_fresh {H1' : Hp} {ds : List Path} {v : TV} {cells : List TV} {norg : List (Option Nat)} (h : TakeLoc st.H st'.H H1 ds H1') :
  LocE st st' { v, dead := if ds = [] then none else some (under ds), H := setRoot H1 root cells, wr := root :: prs ds, nr := some root, norg }
   { v, dead := if ds = [] then none else some (under ds), H := setRoot H1' root cells, wr := root :: prs ds, nr := some root, norg } := by
 refine ⟨rfl, rfl, rfl, rfl, rfl, fun r => ⟨fun hr => ?_, fun hr => ?_⟩, fun r hr => ?_, fun r hr => ?_, fun q hq => deadU_in hq h.ne fun r hr => List.mem_cons_of_mem _ hr⟩
 ·simp only [setRoot]
  split
  ·rfl
  ·rename_i hne
   rcases List.mem_cons.1 hr with rfl | hr
   ·exact absurd rfl hne
   ·exact (h.mix r).1 hr
 ·simp only [List.mem_cons, not_or] at hr
  simp only [setRoot, hr.1, if_false]
  exact (h.mix r).2 hr.2
 ·simp only [List.mem_cons, not_or] at hr
  simp only [setRoot, hr.1, if_false]
  exact h.off r hr.2
 ·simp only [Option.some.injEq] at hr; subst hr; simp
theorem rootsL_cells {u : TV} {r : Nat} (hr : r ∈ rootsL (cellsT u)) : r ∈ rootsT u := by
 cases u <;> first | exact hr | simpa [cellsT, rootsL] using hr
theorem loc_call {g : FuncId} {as : List (TV × Nat)} (h : callW P st root g as (· = E)) (ha : Agree (rootsL (as.map (·.1))) st.H st'.H) (hr : st'.H root = st.H root) :
  ∃ E', callW P st' root g as (· = E') ∧ LocE st st' E E' := by
 obtain ⟨al, ms, args, res, outs, hc, hroot, hr2, tk, H1, ds, ps, ro, t1, t2, t3, t4, t5⟩ := h
 obtain ⟨H1', g1, g2, g3⟩ := takeArgs_loc t1 ha
 have a1 := g2.agree ha
 have hps : ∀ p, some p ∈ ps → ∀ r ∈ pr p, r ∈ rootsL (as.map (·.1)) := by
  intro p hp
  have key : ∀ (ms : List Mode) (as : List (TV × Nat)) (H H1 : Hp) (tk : List TV) (ds : List Path) (ps : List (Option Path)), takeArgs H ms as = some (tk, H1, ds, ps) → some p ∈ ps → ∀ r ∈ pr p, r ∈ rootsL (as.map (·.1)) := by
   intro ms
   induction ms with
   | nil =>
    intro as H H1 tk ds ps h hp
    cases as with
    | nil => simp only [takeArgs, Option.some.injEq, Prod.mk.injEq] at h; obtain ⟨_, _, _, rfl⟩ := h; simp at hp
    | cons => simp [takeArgs] at h
   | cons m ms ih =>
    intro as H H1 tk ds ps h hp r hr
    cases as with
    | nil => cases m <;> simp [takeArgs] at h
    | cons a as =>
     obtain ⟨u, n⟩ := a
     simp only [List.map_cons, rootsL, List.mem_append]
     cases m with
     | ro =>
      simp only [takeArgs, Option.bind_eq_some_iff, Option.some.injEq, Prod.mk.injEq] at h
      obtain ⟨⟨tk', H2, ds', ps'⟩, h1, rfl, rfl, rfl, rfl⟩ := h
      exact .inr (ih as _ _ _ _ _ h1 hp r hr)
     | own =>
      simp only [takeArgs, Option.bind_eq_some_iff, Option.some.injEq, Prod.mk.injEq] at h
      obtain ⟨⟨us, H2, d2⟩, h1, ⟨tk', H3, ds', ps'⟩, h2, rfl, rfl, rfl, rfl⟩ := h
      rcases List.mem_append.1 hp with hp | hp
      ·obtain ⟨c, hc1, hc2⟩ := List.mem_map.1 hp
       refine .inl (rootsL_cells (rootsL_mem.2 ⟨c, hc1, ?_⟩))
       unfold pathOf at hc2
       split at hc2
       ·simp only [Option.some.injEq] at hc2; subst hc2; exact hr
       ·simp only [Option.some.injEq] at hc2; subst hc2; exact hr
       ·cases hc2
      ·exact .inr (ih as _ _ _ _ _ h2 hp r hr)
  exact key ms as st.H H1 tk ds ps t1 hp
 have hbk : ∀ p, some p ∈ backsOf ps outs → some p ∈ ps := by
  have : ∀ (ps : List (Option Path)) (os : List (Option TV)) p, some p ∈ backsOf ps os → some p ∈ ps := by
   intro ps
   induction ps with
   | nil => intro os p h; simp [backsOf] at h
   | cons q ps ih =>
    intro os p h
    cases os with
    | nil => simp [backsOf] at h
    | cons o os =>
     cases o with
     | none =>
      simp only [backsOf, List.mem_cons, reduceCtorEq, false_or] at h
      exact List.mem_cons_of_mem _ (ih os p h)
     | some u =>
      simp only [backsOf, List.mem_cons] at h ⊢
      exact h.imp id (ih os p)
  exact this ps outs
 have hpd : ∀ p, some p ∈ backsOf ps outs → p ∈ ds := by
  intro p hp
  have key : ∀ (ms : List Mode) (as : List (TV × Nat)) (H H1 : Hp) (tk : List TV) (ds : List Path) (ps : List (Option Path)), takeArgs H ms as = some (tk, H1, ds, ps) → some p ∈ ps → p ∈ ds := by
   intro ms
   induction ms with
   | nil =>
    intro as H H1 tk ds ps h hp
    cases as with
    | nil => simp only [takeArgs, Option.some.injEq, Prod.mk.injEq] at h; obtain ⟨_, _, _, rfl⟩ := h; simp at hp
    | cons => simp [takeArgs] at h
   | cons m ms ih =>
    intro as H H1 tk ds ps h hp
    cases as with
    | nil => cases m <;> simp [takeArgs] at h
    | cons a as =>
     obtain ⟨u, n⟩ := a
     cases m with
     | ro =>
      simp only [takeArgs, Option.bind_eq_some_iff, Option.some.injEq, Prod.mk.injEq] at h
      obtain ⟨⟨tk', H2, ds', ps'⟩, h1, rfl, rfl, rfl, rfl⟩ := h
      exact ih as _ _ _ _ _ h1 hp
     | own =>
      simp only [takeArgs, Option.bind_eq_some_iff, Option.some.injEq, Prod.mk.injEq] at h
      obtain ⟨⟨us, H2, d2⟩, h1, ⟨tk', H3, ds', ps'⟩, h2, rfl, rfl, rfl, rfl⟩ := h
      rcases List.mem_append.1 hp with hp | hp
      ·obtain ⟨c, hc1, hc2⟩ := List.mem_map.1 hp
       obtain ⟨m, hm⟩ := List.getElem?_of_mem hc1
       exact List.mem_append_left _ (pathOf_deadL h1 hm hc2)
      ·exact List.mem_append_right _ (ih as _ _ _ _ _ h2 hp)
  exact key ms as st.H H1 tk ds ps t1 (hbk p hp)
 have t4' : backOk st'.H H1' ps outs := backOk_loc (fun p hp => ⟨ha.mono (hps p hp), a1.mono (hps p hp)⟩) t4
 have hpb := putBack_loc (us := outsT outs) g2 hpd
 subst t5
 have hdd : ∀ q, deadB (if ds = [] then none else some (fun q => under ds q && !((backsOf ps outs).any (· == some q)))) q = true → ∃ s t, q = s :: t ∧ s.1 ∈ prs ds := by
  intro q hq
  refine deadU_in (ds := ds) ?_ g2.ne (fun _ h => h)
  split at hq
  ·simp [deadB] at hq
  ·rename_i hne
   simp only [deadB, Bool.and_eq_true] at hq
   simp only [hne, if_false, deadB]; exact hq.1
 refine ⟨_, ⟨al, ms, args, res, outs, hc, by rw [hr]; exact hroot, hr2, tk, H1', ds, ps, ro, g1, by rw [roArgs_loc a1]; exact t2, t3, t4', rfl⟩, ?_⟩
 by_cases hown : (res.flatMap cellsT).any isOwn = true
 ·simp only [hown, if_true]
  refine ⟨rfl, rfl, rfl, rfl, rfl, fun r => ⟨fun hr => ?_, fun hr => ?_⟩, fun r hr => ?_, fun r hr => ?_, fun q hq => ?_⟩
  ·simp only [setRoot]
   split
   ·rfl
   ·rename_i hne
    rcases List.mem_cons.1 hr with rfl | hr
    ·exact absurd rfl hne
    ·exact (hpb.mix r).1 hr
  ·simp only [List.mem_cons, not_or] at hr
   simp only [setRoot, hr.1, if_false]
   exact (hpb.mix r).2 hr.2
  ·simp only [List.mem_cons, not_or] at hr
   simp only [setRoot, hr.1, if_false]
   exact hpb.off r hr.2
  ·simp only [Option.some.injEq] at hr; subst hr; simp
  ·obtain ⟨s, t, h1, h2⟩ := hdd q hq
   exact ⟨s, t, h1, List.mem_cons_of_mem _ h2⟩
 ·simp only [hown, Bool.false_eq_true, if_false]
  exact ⟨rfl, rfl, rfl, rfl, rfl, hpb.mix, hpb.off, fun r hr => by simp at hr, hdd⟩
theorem opW_loc (hE : opW P st root op (· = E)) (ha : AgrS st st' op root) : ∃ E', opW P st' root op (· = E') ∧ LocE st st' E E' := by
 obtain ⟨ht, hH, hr, ho⟩ := ha
 cases op with
 | mv x =>
  have e1 := ev_loc (x := x) (st := st) (st' := st') (fun k hk => ht k (by simpa [opTm] using hk))
  simp only [opW] at hE
  exact loc_val ⟨_, hE.symm, by simp only [opW, e1]⟩
 | pick c a b =>
  have e1 := ev_loc (x := c) (st := st) (st' := st') (fun k hk => ht k (by simp [opTm, hk]))
  have e2 := ev_loc (x := a) (st := st) (st' := st') (fun k hk => ht k (by simp [opTm, hk]))
  have e3 := ev_loc (x := b) (st := st) (st' := st') (fun k hk => ht k (by simp [opTm, hk]))
  simp only [opW] at hE
  split at hE
  case h_2 => exact hE.elim
  rename_i x hx
  exact loc_val ⟨_, hE.symm, by simp only [opW, e1, e2, e3, hx]⟩
 | box n x =>
  have e1 := ev_loc (x := x) (st := st) (st' := st') (fun k hk => ht k (by simpa [opTm] using hk))
  have hH : Agree (rootsT (x.ev st)) st.H st'.H := hH.mono fun r hr => by simp [opT, rootsL, hr]
  simp only [opW] at hE
  split at hE
  case h_2 => exact hE.elim
  rename_i us H1 ds htk
  obtain ⟨h1, h2, h3, rfl⟩ := hE
  obtain ⟨H1', g1, g2, g3⟩ := takeL_loc htk (hH.mono fun r hr => rootsL_cells hr)
  have hn : (cellsT (x.ev st)).map (norgOf st') = (cellsT (x.ev st)).map (norgOf st) := by
   refine List.map_congr_left fun c hc => ?_
   have hcr : ∀ r ∈ rootsT c, r ∈ rootsT (x.ev st) := fun r hr => rootsL_cells (rootsL_mem.2 ⟨c, hc, hr⟩)
   exact norgOf_loc (hH.mono hcr) fun s t hs => ho s t (by simp [opT, rootsL, hcr _ hs])
  refine ⟨_, by simp only [opW, e1, g1]; exact ⟨h1, hr.trans h2, h3, rfl⟩, ?_⟩
  rw [hn]
  exact loc_fresh g2
 | build zero ps =>
  have e1 : (ps.map fun x => (x.1, x.2.1, x.2.2.ev st')) = ps.map fun x => (x.1, x.2.1, x.2.2.ev st) :=
   List.map_congr_left fun p hp => by rw [ev_loc (x := p.2.2) (st := st) (st' := st') fun k hk => ht k (by simp only [opTm, List.mem_flatMap]; exact ⟨p, hp, hk⟩)]
  simp only [opW] at hE
  split at hE
  case h_2 => exact hE.elim
  rename_i cs hcs
  exact loc_val ⟨_, hE.symm, by simp only [opW, e1, hcs]⟩
 | bslice z len zero ps =>
  have e1 : (ps.map fun x => (x.1, x.2.ev st')) = ps.map fun x => (x.1, x.2.ev st) :=
   List.map_congr_left fun p hp => by rw [ev_loc (x := p.2) (st := st) (st' := st') fun k hk => ht k (by simp only [opTm, List.mem_flatMap]; exact ⟨p, hp, hk⟩)]
  simp only [opW] at hE
  split at hE
  case h_2 => exact hE.elim
  rename_i es hes
  split at hE
  case h_2 => exact hE.elim
  rename_i us H1 ds htk
  obtain ⟨h1, h2, h3, rfl⟩ := hE
  have hsub : ∀ r ∈ rootsL es.flatten, r ∈ rootsL (opT st (.bslice z len zero ps)) := by
   have key : ∀ (qs : List (Nat × TV)) (es es' : List (List TV)), putElems z es qs = some es' → ∀ r ∈ rootsL es'.flatten, r ∈ rootsL es.flatten ∨ r ∈ rootsL (qs.map (·.2)) := by
    intro qs
    induction qs with
    | nil => intro es es' h r hr; simp only [putElems, Option.some.injEq] at h; subst h; exact .inl hr
    | cons q qs ih =>
     intro es es' h r hr
     obtain ⟨i, u⟩ := q
     simp only [putElems] at h
     split at h
     case isFalse => cases h
     rcases ih _ _ h r hr with h1 | h1
     ·obtain ⟨c, hc1, hc2⟩ := rootsL_mem.1 h1
      obtain ⟨e, he1, he2⟩ := List.mem_flatten.1 hc1
      rcases List.mem_or_eq_of_mem_set he1 with he | rfl
      ·exact .inl (rootsL_mem.2 ⟨c, List.mem_flatten.2 ⟨e, he, he2⟩, hc2⟩)
      ·exact .inr (by simp [rootsL, rootsL_cells (rootsL_mem.2 ⟨c, he2, hc2⟩)])
     ·exact .inr (by simp [rootsL, h1])
   intro r hr
   simp only [opT, rootsL_app, List.mem_append]
   rcases key _ _ _ hes r hr with h | h
   ·obtain ⟨c, hc1, hc2⟩ := rootsL_mem.1 h
    obtain ⟨e, he1, he2⟩ := List.mem_flatten.1 hc1
    rw [List.eq_of_mem_replicate he1] at he2
    exact .inl (rootsL_mem.2 ⟨c, he2, hc2⟩)
   ·refine .inr ?_
    simpa [List.map_map, Function.comp_def] using h
  obtain ⟨H1', g1, g2, g3⟩ := takeL_loc htk (hH.mono hsub)
  exact ⟨_, by simp only [opW, e1, hes, g1]; exact ⟨hr.trans h1, h2, h3, rfl⟩, loc_fresh g2⟩
 | load agg n a =>
  have e1 := ev_loc (x := a) (st := st) (st' := st') (fun k hk => ht k (by simpa [opTm] using hk))
  have hH : Agree (rootsT (a.ev st)) st.H st'.H := hH.mono fun r hr => by simp [opT, rootsL, hr]
  simp only [opW] at hE
  split at hE
  ·rename_i p i f hx
   rw [hx] at hH
   have hro : rowAt st'.H p i = rowAt st.H p i := rowAt_loc hH
   split at hE
   case h_2 => exact hE.elim
   rename_i cs hcs
   obtain ⟨h1, hE⟩ := hE
   cases agg with
   | true => exact loc_val ⟨_, hE.symm, by simp only [opW, e1, hx, hro, hcs]; refine ⟨h1, ?_⟩; first | trivial | rfl | simp⟩
   | false => exact loc_val ⟨_, hE.2.symm, by simp only [opW, e1, hx, hro, hcs]; refine ⟨h1, hE.1, ?_⟩; first | trivial | rfl | simp⟩
  ·rename_i cs hx
   obtain ⟨h1, hE⟩ := hE
   cases agg with
   | true => exact loc_val ⟨_, hE.symm, by simp only [opW, e1, hx]; refine ⟨h1, ?_⟩; first | trivial | rfl | simp⟩
   | false => exact loc_val ⟨_, hE.2.symm, by simp only [opW, e1, hx]; refine ⟨h1, hE.1, ?_⟩; first | trivial | rfl | simp⟩
  ·exact hE.elim
 | store n a x =>
  have e1 := ev_loc (x := a) (st := st) (st' := st') (fun k hk => ht k (by simp [opTm, hk]))
  have e2 := ev_loc (x := x) (st := st) (st' := st') (fun k hk => ht k (by simp [opTm, hk]))
  simp only [opW] at hE
  split at hE
  case h_2 => exact hE.elim
  rename_i p i f hx
  split at hE
  case h_2 => exact hE.elim
  rename_i us H1 ds htk
  obtain ⟨h1, h2, rfl⟩ := hE
  obtain ⟨H1', g1, g2, g3⟩ := takeL_loc htk (hH.mono fun r hr => by simp [opT, rootsL, rootsL_cells hr])
  have hap : Agree (pr p) st.H st'.H := hH.mono fun r hr => by
   have : r ∈ rootsT (a.ev st) := by rw [hx]; exact hr
   simp [opT, rootsL, this]
  have hap1 := g2.agree hap
  have hro : rowAt H1' p i = rowAt H1 p i := rowAt_loc hap1
  have hp0 : p ≠ [] := by
   rintro rfl
   simp [rowAt, cellAt] at h2
  obtain ⟨s, t, rfl⟩ : ∃ s t, p = s :: t := by cases p with
   | nil => exact absurd rfl hp0
   | cons s t => exact ⟨s, t, rfl⟩
  refine ⟨_, by simp only [opW, e1, e2, hx, g1, hro]; exact ⟨h1, h2, rfl⟩, ?_⟩
  have hmod : ∀ (us : List TV) (f : Nat) (G : Hp) (r : Nat), r ≠ s.1 → putL (s :: t) i f us G r = G r := by
   intro us
   induction us with
   | nil => intro f G r _; rfl
   | cons u us ih =>
    intro f G r hr
    simp only [putL]
    rw [ih _ _ _ hr]
    exact modH_off (by simp [hr])
  have hsame : ∀ (us : List TV) (f : Nat) (G G' : Hp), G' s.1 = G s.1 → putL (s :: t) i f us G' s.1 = putL (s :: t) i f us G s.1 := by
   intro us
   induction us with
   | nil => intro f G G' h; exact h
   | cons u us ih =>
    intro f G G' h
    simp only [putL]
    refine ih _ _ _ ?_
    simp [modH, h]
  refine ⟨rfl, rfl, rfl, rfl, rfl, fun r => ⟨fun hr' => ?_, fun hr' => ?_⟩, fun r hr' => ?_, fun r hr' => by simp at hr', fun q hq => ?_⟩
  ·by_cases hs : r = s.1
   ·subst hs; exact hsame us f H1 H1' (hap1 _ (by simp))
   ·refine (hmod us f H1' r hs).trans (Eq.trans ?_ (hmod us f H1 r hs).symm)
    simp only [List.head?_cons, Option.map_some, Option.toList_some, List.singleton_append, List.mem_cons] at hr'
    rcases hr' with hr' | hr'
    ·exact absurd hr' hs
    ·exact (g2.mix r).1 hr'
  ·simp only [List.head?_cons, Option.map_some, Option.toList_some, List.singleton_append, List.mem_cons, not_or] at hr'
   exact (hmod us f H1' r hr'.1).trans ((g2.mix r).2 hr'.2)
  ·simp only [List.head?_cons, Option.map_some, Option.toList_some, List.singleton_append, List.mem_cons, not_or] at hr'
   exact (hmod us f H1 r hr'.1).trans (g2.off r hr'.2)
  ·simp only [deadB, Bool.or_eq_true] at hq
   rcases hq with hq | hq
   ·obtain ⟨p', h3, h4⟩ := List.any_eq_true.1 hq
    have hp' := List.isPrefixOf_iff_prefix.1 h4
    cases p' with
    | nil => exact absurd rfl (g2.ne _ h3)
    | cons s' t' =>
     obtain ⟨r, rfl⟩ := hp'
     exact ⟨s', t' ++ r, rfl, List.mem_append_right _ (List.mem_filterMap.2 ⟨_, h3, rfl⟩)⟩
   ·obtain ⟨p', h3, h4⟩ := List.any_eq_true.1 hq
    have hp' := List.isPrefixOf_iff_prefix.1 h4
    obtain ⟨j, _, rfl⟩ := List.mem_map.1 h3
    obtain ⟨r, rfl⟩ := hp'
    exact ⟨s, _, rfl, by simp⟩
 | nilck x =>
  have e1 := ev_loc (x := x) (st := st) (st' := st') (fun k hk => ht k (by simpa [opTm] using hk))
  simp only [opW] at hE
  split at hE <;> first
   | exact hE.elim
   | (rename_i hx; exact loc_val ⟨_, hE.symm, by simp only [opW, e1, hx]⟩)
 | bin o x y =>
  have e1 := ev_loc (x := x) (st := st) (st' := st') (fun k hk => ht k (by simp [opTm, hk]))
  have e2 := ev_loc (x := y) (st := st) (st' := st') (fun k hk => ht k (by simp [opTm, hk]))
  simp only [opW] at hE
  obtain ⟨v, h1, h2⟩ := binT_one hE
  refine loc_val ⟨v, h2.symm, ?_⟩
  simp only [opW, e1, e2]
  revert h1
  generalize x.ev st = a; generalize y.ev st = b
  intro h1
  unfold binT at h1 ⊢
  split at h1
  ·cases o <;> simp only at h1 ⊢ <;> first
    | exact ⟨h1.1, h1.2.1, by rw [h1.2.2]⟩
    | exact ⟨h1.1, by rw [h1.2]⟩
  ·cases o <;> simp only at h1 ⊢ <;> first
    | exact ⟨h1.1, by rw [h1.2]⟩
    | (rw [h1])
    | exact h1.elim
  ·cases o <;> simp only at h1 ⊢ <;> first
    | (rw [h1])
    | exact h1.elim
  ·exact h1.elim
 | eqs neg agg ks x y =>
  have e1 := ev_loc (x := x) (st := st) (st' := st') (fun k hk => ht k (by simp [opTm, hk]))
  have e2 := ev_loc (x := y) (st := st) (st' := st') (fun k hk => ht k (by simp [opTm, hk]))
  simp only [opW] at hE
  split at hE
  case h_2 => exact hE.elim
  rename_i r hx
  exact loc_val ⟨_, hE.2.2.symm, by simp only [opW, e1, e2, hx]; refine ⟨hE.1, hE.2.1, ?_⟩; first | trivial | rfl | simp⟩
 | eqp neg x y =>
  have e1 := ev_loc (x := x) (st := st) (st' := st') (fun k hk => ht k (by simp [opTm, hk]))
  have e2 := ev_loc (x := y) (st := st) (st' := st') (fun k hk => ht k (by simp [opTm, hk]))
  simp only [opW] at hE
  split at hE <;> first
   | exact hE.elim
   | (rename_i hx hy; exact loc_val ⟨_, hE.symm, by simp only [opW, e1, e2, hx, hy]⟩)
 | un o x =>
  have e1 := ev_loc (x := x) (st := st) (st' := st') (fun k hk => ht k (by simpa [opTm] using hk))
  simp only [opW] at hE
  split at hE <;> first
   | exact hE.elim
   | (rename_i hx; exact loc_val ⟨_, hE.symm, by simp only [opW, e1, hx]⟩)
 | toInt k x =>
  have e1 := ev_loc (x := x) (st := st) (st' := st') (fun k hk => ht k (by simpa [opTm] using hk))
  simp only [opW] at hE
  split at hE
  ·rename_i hx; exact loc_val ⟨_, hE.symm, by simp only [opW, e1, hx]⟩
  ·rename_i hx
   split at hE
   case h_2 => exact hE.elim
   rename_i n hn
   exact loc_val ⟨_, hE.2.2.symm, by simp only [opW, e1, hx, hn]; refine ⟨hE.1, hE.2.1, ?_⟩; first | trivial | rfl | simp⟩
  ·exact hE.elim
 | toF x =>
  have e1 := ev_loc (x := x) (st := st) (st' := st') (fun k hk => ht k (by simpa [opTm] using hk))
  simp only [opW] at hE
  split at hE <;> first
   | exact hE.elim
   | (rename_i hx; exact loc_val ⟨_, hE.symm, by simp only [opW, e1, hx]⟩)
 | toS x =>
  have e1 := ev_loc (x := x) (st := st) (st' := st') (fun k hk => ht k (by simpa [opTm] using hk))
  have hH : Agree (rootsT (x.ev st)) st.H st'.H := hH.mono fun r hr => by simp [opT, rootsL, hr]
  have e2 : elemsOf st'.H (x.ev st) = elemsOf st.H (x.ev st) := by
   generalize x.ev st = u at hH
   unfold elemsOf
   split
   ·rfl
   ·rfl
   ·rw [cellAt_loc (by exact hH)]
   ·rfl
  simp only [opW] at hE
  split at hE
  case h_2 => exact hE.elim
  rename_i bs hb
  exact loc_val ⟨_, hE.symm, by simp only [opW, e1, e2, hb]⟩
 | mkfn g caps =>
  have e1 : (caps.map (·.ev st')) = caps.map (·.ev st) :=
   List.map_congr_left fun p hp => ev_loc (x := p) (st := st) (st' := st') fun k hk => ht k (by simp only [opTm, List.mem_flatMap]; exact ⟨p, hp, hk⟩)
  simp only [opW] at hE
  exact loc_val ⟨_, hE.symm, by simp only [opW, e1]⟩
 | mkslice z by_ zero l c =>
  have e1 := ev_loc (x := l) (st := st) (st' := st') (fun k hk => ht k (by simp [opTm, hk]))
  have e2 := ev_loc (x := c) (st := st) (st' := st') (fun k hk => ht k (by simp [opTm, hk]))
  simp only [opW] at hE
  split at hE
  case h_2 => exact hE.elim
  rename_i n n2 hx hy
  obtain ⟨q1, q2, q3, q4, q5, q6, q7, rfl⟩ := hE
  refine ⟨_, by simp only [opW, e1, e2, hx, hy]; exact ⟨q1, q2, q3, hr.trans q4, q5, q6, q7, rfl⟩, ?_⟩
  have := loc_fresh (st := st) (st' := st') (root := root) (v := .rf [(root, 0)] 0 n.toNat) (cells := [.sl true z (List.replicate n.toNat zero)]) (norg := []) (TakeLoc.refl (H := st.H) (H' := st'.H))
  simpa using this
 | slice str z x lo hi =>
  have e1 := ev_loc (x := x) (st := st) (st' := st') (fun k hk => ht k (by simp [opTm, hk]))
  have hlo : ∀ k ∈ tmsO lo, st'.t k = st.t k := fun k hk => ht k (by simp [opTm, hk])
  have hhi : ∀ k ∈ tmsO hi, st'.t k = st.t k := fun k hk => ht k (by simp [opTm, hk])
  have hHx : ∀ p off len, x.ev st = .rf p off len → Agree (pr p) st.H st'.H := fun p off len hx => hH.mono fun r hr => List.mem_append_left _ (by rw [hx]; exact hr)
  cases str with
  | true =>
   simp only [opW] at hE
   split at hE
   case h_2 => exact hE.elim
   rename_i s hx
   obtain ⟨l, _, hE, hl⟩ := optB_one hE
   obtain ⟨h, _, hE, hh⟩ := optB_one hE
   refine loc_val ⟨_, hE.2.2.2.symm, ?_⟩
   simp only [opW, e1, hx]
   rw [optB_loc hlo]
   refine hl _ ?_
   rw [optB_loc hhi]
   exact hh _ ⟨hE.1, hE.2.1, hE.2.2.1, rfl⟩
  | false =>
   simp only [opW] at hE
   split at hE
   ·rename_i hx
    obtain ⟨hz, hE⟩ := hE
    obtain ⟨l, _, hE, hl⟩ := optB_one hE
    obtain ⟨h, _, hE, hh⟩ := optB_one hE
    refine loc_val ⟨_, hE.2.2.2.symm, ?_⟩
    simp only [opW, e1, hx]
    refine ⟨hz, ?_⟩
    rw [optB_loc hlo]
    refine hl _ ?_
    rw [optB_loc hhi]
    exact hh _ ⟨hE.1, hE.2.1, hE.2.2.1, rfl⟩
   ·rename_i hx
    obtain ⟨l, _, hE, hl⟩ := optB_one hE
    obtain ⟨h, _, hE, hh⟩ := optB_one hE
    refine loc_val ⟨_, hE.2.2.symm, ?_⟩
    simp only [opW, e1, hx]
    rw [optB_loc hlo]
    refine hl _ ?_
    rw [optB_loc hhi]
    exact hh _ ⟨hE.1, hE.2.1, (by first | trivial | rfl)⟩
   ·rename_i hx
    obtain ⟨hz, hE⟩ := hE
    obtain ⟨l, _, hE, hl⟩ := optB_one hE
    obtain ⟨h, _, hE, hh⟩ := optB_one hE
    refine loc_val ⟨_, hE.2.2.2.symm, ?_⟩
    simp only [opW, e1, hx]
    refine ⟨by rw [shapeAt_loc (by exact hHx _ _ _ hx)]; exact hz, ?_⟩
    rw [optB_loc hlo]
    refine hl _ ?_
    rw [optB_loc hhi]
    exact hh _ ⟨hE.1, hE.2.1, hE.2.2.1, rfl⟩
   ·exact hE.elim
 | faddr off n x =>
  have e1 := ev_loc (x := x) (st := st) (st' := st') (fun k hk => ht k (by simpa [opTm] using hk))
  have hH : Agree (rootsT (x.ev st)) st.H st'.H := hH.mono fun r hr => by simp [opT, rootsL, hr]
  simp only [opW] at hE
  split at hE
  ·rename_i p i f hx
   rw [hx] at hH
   have hro : rowAt st'.H p i = rowAt st.H p i := rowAt_loc hH
   split at hE
   case h_2 => exact hE.elim
   rename_i cs hcs
   exact loc_val ⟨_, hE.2.symm, by simp only [opW, e1, hx, hro, hcs]; refine ⟨hE.1, ?_⟩; first | trivial | rfl | simp⟩
  ·rename_i hx
   exact loc_val ⟨_, hE.2.symm, by simp only [opW, e1, hx]; refine ⟨hE.1, ?_⟩; first | trivial | rfl | simp⟩
  ·exact hE.elim
 | fld agg off n x =>
  have e1 := ev_loc (x := x) (st := st) (st' := st') (fun k hk => ht k (by simpa [opTm] using hk))
  simp only [opW] at hE
  split at hE
  case h_2 => exact hE.elim
  rename_i cs hx
  obtain ⟨h1, hE⟩ := hE
  cases agg with
  | true => exact loc_val ⟨_, hE.symm, by simp only [opW, e1, hx]; refine ⟨h1, ?_⟩; first | trivial | rfl | simp⟩
  | false => exact loc_val ⟨_, hE.2.symm, by simp only [opW, e1, hx]; refine ⟨h1, hE.1, ?_⟩; first | trivial | rfl | simp⟩
 | iaddr z x i =>
  have e1 := ev_loc (x := x) (st := st) (st' := st') (fun k hk => ht k (by simp [opTm, hk]))
  have e2 := ev_loc (x := i) (st := st) (st' := st') (fun k hk => ht k (by simp [opTm, hk]))
  have hH : Agree (rootsT (x.ev st)) st.H st'.H := hH.mono fun r hr => by simp [opT, rootsL, hr]
  simp only [opW] at hE
  split at hE
  ·rename_i hx hy
   split at hE
   case h_2 => exact hE.elim
   rename_i e he
   exact loc_val ⟨_, hE.2.symm, by simp only [opW, e1, e2, hx, hy, he]; refine ⟨hE.1, ?_⟩; first | trivial | rfl | simp⟩
  ·rename_i hx hy
   rw [hx] at hH
   exact loc_val ⟨_, hE.2.2.2.symm, by simp only [opW, e1, e2, hx, hy]; refine ⟨hE.1, hE.2.1, by rw [shapeAt_loc (by exact hH)]; exact hE.2.2.1, ?_⟩; first | trivial | rfl | simp⟩
  ·exact hE.elim
 | ix x i =>
  have e1 := ev_loc (x := x) (st := st) (st' := st') (fun k hk => ht k (by simp [opTm, hk]))
  have e2 := ev_loc (x := i) (st := st) (st' := st') (fun k hk => ht k (by simp [opTm, hk]))
  simp only [opW] at hE
  split at hE
  case h_2 => exact hE.elim
  rename_i hx hy
  split at hE
  case h_2 => exact hE.elim
  rename_i b hb
  exact loc_val ⟨_, hE.symm, by simp only [opW, e1, e2, hx, hy, hb]⟩
 | ext k x =>
  simp only [opW] at hE
  split at hE
  case h_2 => exact hE.elim
  rename_i vs hx
  split at hE
  case h_2 => exact hE.elim
  rename_i v hv
  obtain ⟨vs', hx', hv'⟩ := ht.2 vs hx
  exact loc_val ⟨_, hE.symm, by simp only [opW, hx', hv', hv]⟩
 | len str x =>
  have e1 := ev_loc (x := x) (st := st) (st' := st') (fun k hk => ht k (by simpa [opTm] using hk))
  simp only [opW] at hE
  split at hE
  case h_2 => exact hE.elim
  rename_i n hx
  exact loc_val ⟨_, hE.symm, by simp only [opW, e1, hx]⟩
 | maxi x y =>
  have e1 := ev_loc (x := x) (st := st) (st' := st') (fun k hk => ht k (by simp [opTm, hk]))
  have e2 := ev_loc (x := y) (st := st) (st' := st') (fun k hk => ht k (by simp [opTm, hk]))
  simp only [opW] at hE
  split at hE
  case h_2 => exact hE.elim
  rename_i hx hy
  exact loc_val ⟨_, hE.symm, by simp only [opW, e1, e2, hx, hy]⟩
 | app z by_ s x =>
  have e1 := ev_loc (x := s) (st := st) (st' := st') (fun k hk => ht k (by simp [opTm, hk]))
  have e2 := ev_loc (x := x) (st := st) (st' := st') (fun k hk => ht k (by simp [opTm, hk]))
  simp only [opW] at hE
  split at hE
  case h_2 => exact hE.elim
  rename_i z2 es2 H1 d1 hsrc
  split at hE
  case h_2 => exact hE.elim
  rename_i z' es H2 d2 htk
  obtain ⟨h1, h2, h3, h4, h5, rfl⟩ := hE
  obtain ⟨H1', g1, g2, g3⟩ := srcT_loc hsrc (hH.mono fun r hr => by simp [opT, rootsL, hr])
  obtain ⟨H2', g4, g5, g6⟩ := take1_loc htk (g2.agree (hH.mono fun r hr => by simp [opT, rootsL, hr]))
  have g7 := g2.trans g5
  have h3' : freeR H2' root = true := by
   unfold freeR at h3 ⊢
   by_cases hin : root ∈ prs (d1 ++ d2)
   ·rw [(g7.mix root).1 hin]; exact h3
   ·rw [(g7.mix root).2 hin, hr, ← g7.off root hin]; exact h3
  exact ⟨_, by simp only [opW, e1, e2, g1, g4]; exact ⟨h1, h2, h3', h4, h5, rfl⟩, loc_fresh g7⟩
 | call g args =>
  have e1 : (args.map fun x => (x.1.ev st', x.2)) = args.map fun x => (x.1.ev st, x.2) :=
   List.map_congr_left fun p hp => by rw [ev_loc (x := p.1) (st := st) (st' := st') fun k hk => ht k (by simp only [opTm, List.mem_flatMap]; exact ⟨p, hp, hk⟩)]
  simp only [opW] at hE
  obtain ⟨E', g1, g2⟩ := loc_call hE (by simpa [opT, List.map_map, Function.comp_def] using hH) hr
  exact ⟨E', by simp only [opW, e1]; exact g1, g2⟩
 | callv f args =>
  have e0 := ev_loc (x := f) (st := st) (st' := st') (fun k hk => ht k (by simp [opTm, hk]))
  have e1 : (args.map fun x => (x.1.ev st', x.2)) = args.map fun x => (x.1.ev st, x.2) :=
   List.map_congr_left fun p hp => by rw [ev_loc (x := p.1) (st := st) (st' := st') fun k hk => ht k (by simp only [opTm, List.mem_append, List.mem_flatMap]; exact .inr ⟨p, hp, hk⟩)]
  simp only [opW] at hE
  split at hE
  case h_2 => exact hE.elim
  rename_i g caps hx
  obtain ⟨hg, hE⟩ := hE
  obtain ⟨E', g1, g2⟩ := loc_call hE (by
   refine hH.mono fun r hr => ?_
   simp only [List.map_append, List.map_map, Function.comp_def, rootsL_app, List.mem_append] at hr
   simp only [opT, rootsL, List.mem_append]
   rcases hr with hr | hr
   ·exact .inr hr
   ·left
    rw [hx]
    simpa [rootsT] using hr) hr
  exact ⟨E', by simp only [opW, e0, e1, hx]; exact ⟨hg, g1⟩, g2⟩
end
end Go.Proofs.YtmedelmfkciblaaT


namespace Go.Proofs.YtmedelmfkciblaaT
set_option linter.unusedVariables false
set_option linter.unusedSimpArgs false
open Go
section
variable {P : Program} {st st' : St} {E : Eff} {root : Nat} {H H' H1 H2 : Hp}
def rl : TV → Option (List Nat)
 | .sl true _ es => some (es.map List.length)
 | .po true cs => some [cs.length]
 | _ => none
theorem rl_rows (u : TV) : rl u = (rows u).map (List.map List.length) := by
 cases u with
 | sl o z es => cases o <;> rfl
 | po o cs => cases o <;> rfl
 | _ => rfl
theorem rl_upk (φ : TV → TV) (s : Nat × Nat) (u : TV) : rl (upk φ s u) = rl u := by
 cases u with
 | sl o z es =>
  cases o with
  | false => rfl
  | true =>
   simp only [upk, rl]
   congr 1
   apply List.ext_getElem?
   intro i
   simp only [List.getElem?_map, List.getElem?_modify]
   by_cases h : s.1 = i
   ·subst h
    cases es[s.1]? <;> simp
   ·simp [h]
 | po o cs =>
  cases o with
  | false => rfl
  | true =>
   simp only [upk]
   split <;> simp [rl]
 | _ => rfl
theorem down_modd_rl (φ : TV → TV) : ∀ (r q : Path) (u : TV), ¬ r <+: q → (down (modd φ r u) q).bind rl = (down u q).bind rl := by
 intro r
 induction r with
 | nil => intro q u h; exact absurd (List.nil_prefix) h
 | cons s r ih =>
  intro q u h
  cases q with
  | nil => simp only [down, modd, Option.bind_some]; exact rl_upk _ _ _
  | cons s' q =>
   simp only [down, modd]
   by_cases hs : s' = s
   ·subst hs
    rw [kid_upk_same]
    have h' : ¬ r <+: q := fun hh => h (by simpa using hh)
    cases kid u s' with
    | none => rfl
    | some x => simpa using ih q x h'
   ·rw [kid_upk_ne _ _ _ _ hs]
def rlAt (H : Hp) (p : Path) : Option (List Nat) := (cellAt H p).bind rl
theorem rlAt_modH (H : Hp) (φ : TV → TV) (t q : Path) (h : ¬ t <+: q) : rlAt (modH H φ t) q = rlAt H q := by
 cases t with
 | nil => exact absurd (List.nil_prefix) h
 | cons s r =>
  cases q with
  | nil => rfl
  | cons s' q =>
   simp only [rlAt, cellAt]
   rw [modH_get]
   by_cases hs : s' = s
   ·subst hs
    simp only [if_true]
    have h' : ¬ r <+: q := fun hh => h (by simpa using hh)
    cases (H s'.1)[s'.2]? with
    | none => rfl
    | some x => simpa using down_modd_rl φ r q x h'
   ·simp [hs]
theorem rlAt_setRoot {cells : List TV} {q : Path} (h : ∀ j r, q ≠ (root, j) :: r) : rlAt (setRoot H root cells) q = rlAt H q := by
 cases q with
 | nil => rfl
 | cons s r =>
  have : s.1 ≠ root := by intro hs; exact h s.2 r (by rw [← hs])
  simp [rlAt, cellAt, setRoot, this]
theorem row_rl (H : Hp) (p : Path) (i : Nat) : (rowAt H p i).map List.length = (rlAt H p).bind (·[i]?) := by
 unfold rowAt rlAt
 cases cellAt H p with
 | none => rfl
 | some u =>
  simp only [Option.bind_some, rl_rows]
  cases rows u with
  | none => rfl
  | some es => simp
def Soft (ds : List Path) (H H' : Hp) : Prop := ∀ q, (∀ d ∈ ds, ¬ d <+: q) → shapeAt H' q = shapeAt H q ∧ rlAt H' q = rlAt H q
theorem Soft.refl (H : Hp) : Soft [] H H := fun q _ => ⟨rfl, rfl⟩
theorem Soft.trans {d1 d2 : List Path} (h1 : Soft d1 H H1) (h2 : Soft d2 H1 H2) : Soft (d1 ++ d2) H H2 := fun q hq => by
 obtain ⟨a1, b1⟩ := h1 q fun d hd => hq d (List.mem_append_left _ hd)
 obtain ⟨a2, b2⟩ := h2 q fun d hd => hq d (List.mem_append_right _ hd)
 exact ⟨a2.trans a1, b2.trans b1⟩
theorem Soft.mod (H : Hp) (φ : TV → TV) (t : Path) : Soft [t] H (modH H φ t) := fun q hq =>
 ⟨shapeAt_modH H φ t q (hq t (by simp)), rlAt_modH H φ t q (hq t (by simp))⟩
theorem take1_soft {c u : TV} {d : List Path} (h : take1 H c = some (u, H1, d)) : Soft d H H1 := by
  unfold take1 at h
  repeat' split at h
  all_goals first
    | (simp only [Option.some.injEq, Prod.mk.injEq] at h
       obtain ⟨_, rfl, rfl⟩ := h
       first | exact Soft.refl _ | exact Soft.mod _ _ _)
    | cases h
theorem takeL_soft : ∀ {cs us : List TV} {H H1 : Hp} {d : List Path}, takeL cs H = some (us, H1, d) → Soft d H H1
 | [], us, H, H1, d, h => by
  simp only [takeL, Option.some.injEq, Prod.mk.injEq] at h
  obtain ⟨_, rfl, rfl⟩ := h
  exact Soft.refl _
 | c :: cs, us, H, H1, d, h => by
  simp only [takeL, Option.bind_eq_some_iff, Option.some.injEq, Prod.mk.injEq] at h
  obtain ⟨⟨u, H2, d2⟩, h1, ⟨us', H3, d3⟩, h2, rfl, rfl, rfl⟩ := h
  exact (take1_soft h1).trans (takeL_soft h2)
theorem takeRows_soft {p : Path} : ∀ {i : Nat} {es es' : List (List TV)} {H H1 : Hp} {d : List Path}, takeRows p i es H = some (es', H1, d) → Soft d H H1
 | i, [], es', H, H1, d, h => by
  simp only [takeRows, Option.some.injEq, Prod.mk.injEq] at h
  obtain ⟨_, rfl, rfl⟩ := h
  exact Soft.refl _
 | i, e :: es, es', H, H1, d, h => by
  simp only [takeRows, Option.bind_eq_some_iff, Option.some.injEq, Prod.mk.injEq] at h
  obtain ⟨⟨u, H2, d2⟩, h1, ⟨us', H3, d3⟩, h2, rfl, rfl, rfl⟩ := h
  exact (takeL_soft h1).trans (takeRows_soft h2)
theorem srcT_soft {x : TV} {z : Nat} {es : List (List TV)} {d : List Path} (h : srcT H x = some (z, es, H1, d)) : Soft d H H1 := by
 unfold srcT at h
 split at h
 ·split at h
  ·split at h
   ·simp only [Option.some.injEq, Prod.mk.injEq] at h
    obtain ⟨_, _, rfl, rfl⟩ := h
    exact Soft.refl _
   ·simp only [Option.map_eq_some_iff] at h
    obtain ⟨⟨es', H2, d2⟩, h1, h2⟩ := h
    simp only [Prod.mk.injEq] at h2
    obtain ⟨_, _, rfl, rfl⟩ := h2
    exact takeRows_soft h1
  ·cases h
 ·split at h
  ·simp only [Option.some.injEq, Prod.mk.injEq] at h
   obtain ⟨_, _, rfl, rfl⟩ := h
   exact Soft.refl _
  ·cases h
 ·simp only [Option.some.injEq, Prod.mk.injEq] at h
  obtain ⟨_, _, rfl, rfl⟩ := h
  exact Soft.refl _
 ·cases h
theorem app_soft {z bytes : Nat} {s x : TOpd} (h : opW P st root (.app z bytes s x) (· = E)) :
  ∀ q, liveB E.dead q = true → (shapeAt st.H q).isSome = true → shapeAt E.H q = shapeAt st.H q ∧ rlAt E.H q = rlAt st.H q := by
 simp only [opW] at h
 split at h
 case h_2 => exact h.elim
 rename_i z2 es2 H1 d1 h1
 split at h
 case h_2 => exact h.elim
 rename_i z' es H2 d2 h2
 obtain ⟨_, _, hfr, _, _, rfl⟩ := h
 have hs := (srcT_soft h1).trans (take1_soft h2)
 intro q hq hl
 have hq' : ∀ d ∈ d1 ++ d2, ¬ d <+: q := by
  intro d hd hp
  simp only at hq
  have hne : ¬ d1 ++ d2 = [] := fun e => by rw [e] at hd; cases hd
  rw [if_neg hne] at hq
  simp only [liveB, Bool.not_eq_true'] at hq
  have : under (d1 ++ d2) q = true := by
   unfold under
   exact List.any_eq_true.2 ⟨d, hd, by simpa using hp⟩
  rw [this] at hq; cases hq
 have hnr := notroot_free hfr (fun q hq => (hs q hq).1) q hq' hl
 obtain ⟨a, b⟩ := hs q hq'
 exact ⟨(shapeAt_setRoot hnr).trans a, (rlAt_setRoot hnr).trans b⟩
theorem cellAt_modJ {p : Path} (hp : p ≠ []) (s : Nat × Nat) (t : Path) : cellAt (modH H (fun _ => .junk) p) (p ++ s :: t) = none := by
 rw [cellAt_append _ _ hp, cellAt_modH_self]
 cases cellAt H p with
 | none => rfl
 | some x => rfl
theorem cellAt_modJn {p q : Path} (h : cellAt H q = none) : cellAt (modH H (fun _ => .junk) p) q = none := by
 by_cases hpq : p <+: q
 ·obtain ⟨t, rfl⟩ := hpq
  cases t with
  | nil => rw [List.append_nil] at h ⊢; rw [cellAt_modH_self, h]; rfl
  | cons s t =>
   by_cases hp : p = []
   ·subst hp; exact h
   ·exact cellAt_modJ hp s t
 ·have := cellAt_modH_some (H := H) (fun _ => TV.junk) p q hpq
  rw [h] at this
  cases hh : cellAt (modH H (fun _ => .junk) p) q with
  | none => rfl
  | some x => rw [hh] at this; cases this
def GoneB (H H1 : Hp) (d : List Path) : Prop := (∀ q, cellAt H q = none → cellAt H1 q = none) ∧ ∀ p ∈ d, ∀ s t, cellAt H1 (p ++ s :: t) = none
theorem GoneB.refl (H : Hp) : GoneB H H [] := ⟨fun _ h => h, fun p h => by cases h⟩
theorem GoneB.trans {d1 d2 : List Path} (h1 : GoneB H H1 d1) (h2 : GoneB H1 H2 d2) : GoneB H H2 (d1 ++ d2) := ⟨fun q h => h2.1 q (h1.1 q h), fun p hp s t => by
 rcases List.mem_append.1 hp with hp | hp
 ·exact h2.1 _ (h1.2 p hp s t)
 ·exact h2.2 p hp s t⟩
theorem GoneB.mod {p : Path} {x : TV} (h : cellAt H p = some x) : GoneB H (modH H (fun _ => .junk) p) [p] := ⟨fun q h => cellAt_modJn h, fun q hq s t => by
 rw [List.mem_singleton.1 hq]
 exact cellAt_modJ (by rintro rfl; cases h) s t⟩
theorem take1_gone {c u : TV} {d : List Path} (h : take1 H c = some (u, H1, d)) : GoneB H H1 d ∧ ∀ p, pathOf c = some p → p ∈ d := by
 unfold take1 at h
 split at h
 ·split at h
  ·rename_i hc
   simp only [Option.some.injEq, Prod.mk.injEq] at h
   obtain ⟨_, rfl, rfl⟩ := h
   refine ⟨GoneB.mod hc, fun p hp => ?_⟩
   unfold pathOf at hp
   split at hp
   ·rename_i heq; cases heq; cases hp; simp
   ·rename_i heq; cases heq
   ·cases hp
  ·cases h
 ·split at h
  ·rename_i hc
   simp only [Option.some.injEq, Prod.mk.injEq] at h
   obtain ⟨_, rfl, rfl⟩ := h
   exact ⟨GoneB.mod hc, fun p hp => by simp only [pathOf, Option.some.injEq] at hp; subst hp; simp⟩
  ·cases h
 ·simp only [Option.some.injEq, Prod.mk.injEq] at h
  obtain ⟨_, rfl, rfl⟩ := h
  exact ⟨GoneB.refl _, fun p hp => by cases hp⟩
 ·rename_i u' hn1 hn2 hn3
  split at h
  ·rename_i hnr
   simp only [Option.some.injEq, Prod.mk.injEq] at h
   obtain ⟨rfl, rfl, rfl⟩ := h
   refine ⟨GoneB.refl _, fun p hp => ?_⟩
   unfold pathOf at hp
   split at hp
   ·cases hnr
   ·cases hnr
   ·cases hp
  ·cases h
theorem takeL_gone : ∀ {cs us : List TV} {H H1 : Hp} {d : List Path}, takeL cs H = some (us, H1, d) → GoneB H H1 d ∧ ∀ c ∈ cs, ∀ p, pathOf c = some p → p ∈ d
 | [], us, H, H1, d, h => by
  simp only [takeL, Option.some.injEq, Prod.mk.injEq] at h
  obtain ⟨_, rfl, rfl⟩ := h
  exact ⟨GoneB.refl _, fun c hc => by cases hc⟩
 | c :: cs, us, H, H1, d, h => by
  simp only [takeL, Option.bind_eq_some_iff, Option.some.injEq, Prod.mk.injEq] at h
  obtain ⟨⟨u, H2, d2⟩, h1, ⟨us', H3, d3⟩, h2, rfl, rfl, rfl⟩ := h
  obtain ⟨a1, a2⟩ := take1_gone h1
  obtain ⟨b1, b2⟩ := takeL_gone h2
  refine ⟨a1.trans b1, fun x hx p hp => ?_⟩
  rcases List.mem_cons.1 hx with rfl | hx
  ·exact List.mem_append_left _ (a2 p hp)
  ·exact List.mem_append_right _ (b2 x hx p hp)
theorem takeArgs_gone : ∀ {ms : List Mode} {as : List (TV × Nat)} {H H1 : Hp} {tk : List TV} {ds : List Path} {ps : List (Option Path)}, takeArgs H ms as = some (tk, H1, ds, ps) → GoneB H H1 ds ∧ Soft ds H H1 ∧ ∀ p, some p ∈ ps → p ∈ ds
 | [], [], H, H1, tk, ds, ps, h => by
  simp only [takeArgs, Option.some.injEq, Prod.mk.injEq] at h
  obtain ⟨rfl, rfl, rfl, rfl⟩ := h
  exact ⟨GoneB.refl _, Soft.refl _, fun p hp => by cases hp⟩
 | .ro :: ms, (u, n) :: as, H, H1, tk, ds, ps, h => by
  simp only [takeArgs, Option.bind_eq_some_iff, Option.some.injEq, Prod.mk.injEq] at h
  obtain ⟨⟨tk', H2, ds', ps'⟩, h1, rfl, rfl, rfl, rfl⟩ := h
  exact takeArgs_gone h1
 | .own :: ms, (u, n) :: as, H, H1, tk, ds, ps, h => by
  simp only [takeArgs, Option.bind_eq_some_iff, Option.some.injEq, Prod.mk.injEq] at h
  obtain ⟨⟨us, H2, d2⟩, ht1, ⟨tk', H3, ds', ps'⟩, ht2, rfl, rfl, rfl, rfl⟩ := h
  obtain ⟨a1, a2⟩ := takeL_gone ht1
  obtain ⟨b1, b2, b3⟩ := takeArgs_gone ht2
  refine ⟨a1.trans b1, (takeL_soft ht1).trans b2, fun p hp => ?_⟩
  rcases List.mem_append.1 hp with hp | hp
  ·obtain ⟨c, hc, he⟩ := List.mem_map.1 hp
   exact List.mem_append_left _ (a2 c hc p he)
  ·exact List.mem_append_right _ (b3 p hp)
 | [], _ :: _, _, _, _, _, _, h => by simp [takeArgs] at h
 | .ro :: _, [], _, _, _, _, _, h => by simp [takeArgs] at h
 | .own :: _, [], _, _, _, _, _, h => by simp [takeArgs] at h
theorem putBack_soft : ∀ (bks : List (Option Path)) (us : List TV) (H : Hp) (q : Path), (∀ b, some b ∈ bks → ¬ b <+: q) → shapeAt (putBack H bks us) q = shapeAt H q ∧ rlAt (putBack H bks us) q = rlAt H q
 | some b :: bks, u :: us, H, q, h => by
  simp only [putBack]
  obtain ⟨a1, a2⟩ := putBack_soft bks us (modH H (fun _ => u) b) q fun c hc => h c (by simp [hc])
  exact ⟨a1.trans (shapeAt_modH H _ b q (h b (by simp))), a2.trans (rlAt_modH H _ b q (h b (by simp)))⟩
 | none :: bks, u :: us, H, q, h => by
  simp only [putBack]
  exact putBack_soft bks us H q fun c hc => h c (by simp [hc])
 | [], us, H, q, h => by cases us <;> exact ⟨rfl, rfl⟩
 | some b :: bks, [], H, q, h => ⟨rfl, rfl⟩
 | none :: bks, [], H, q, h => ⟨rfl, rfl⟩
theorem putBack_shape : ∀ (bks : List (Option Path)) (us : List TV) (H : Hp) (q : Path) (j : Nat) (u : TV), bks[j]? = some (some q) → us[j]? = some u → (cellAt H q).isSome = true → (∀ k b, k ≠ j → bks[k]? = some (some b) → ¬ b <+: q) → shapeAt (putBack H bks us) q = shape u
 | some b :: bks, v :: us, H, q, 0, u, hb, hu, hs, h => by
  simp only [List.getElem?_cons_zero, Option.some.injEq] at hb hu
  subst hb; subst hu
  simp only [putBack]
  rw [(putBack_soft bks us _ b fun c hc => by
   obtain ⟨k, hk⟩ := List.getElem?_of_mem hc
   exact h (k + 1) c (by omega) (by simpa using hk)).1]
  obtain ⟨x, hx⟩ := Option.isSome_iff_exists.1 hs
  simp only [shapeAt, cellAt_modH_self, hx, Option.map_some, Option.bind_some]
 | some b :: bks, v :: us, H, q, j + 1, u, hb, hu, hs, h => by
  simp only [putBack]
  refine putBack_shape bks us _ q j u (by simpa using hb) (by simpa using hu) ?_ fun k c hk hc => h (k + 1) c (by omega) (by simpa using hc)
  rw [cellAt_modH_some _ _ _ (h 0 b (by omega) rfl)]
  exact hs
 | none :: bks, v :: us, H, q, j + 1, u, hb, hu, hs, h => by
  simp only [putBack]
  exact putBack_shape bks us _ q j u (by simpa using hb) (by simpa using hu) hs fun k c hk hc => h (k + 1) c (by omega) (by simpa using hc)
 | none :: bks, v :: us, H, q, 0, u, hb, hu, hs, h => by simp at hb
 | [], us, H, q, j, u, hb, hu, hs, h => by simp at hb
 | some b :: bks, [], H, q, j, u, hb, hu, hs, h => by simp at hu
 | none :: bks, [], H, q, j, u, hb, hu, hs, h => by simp at hu
theorem call_soft {g : FuncId} {as : List (TV × Nat)} (h : callW P st root g as (· = E)) : ∀ (p : Path) (s : Nat × Nat), (shapeAt st.H (p ++ [s])).isSome = true → liveB E.dead (p ++ [s]) = true →
  rlAt E.H p = rlAt st.H p ∧ shapeAt E.H (p ++ [s]) = shapeAt st.H (p ++ [s]) := by
 obtain ⟨al, ms, args, res, outs, hc, hroot, hr2, tk, H1, ds, ps, ro, t1, t2, t3, t4, t5⟩ := h
 obtain ⟨g1, g2, g3⟩ := takeArgs_gone t1
 intro p s hsh hl
 have hnr : ∀ j r, p ++ [s] ≠ (root, j) :: r := by
  intro j r hh
  rw [hh] at hsh
  simp [shapeAt, cellAt, hroot] at hsh
 have hnp : ∀ j r, p ≠ (root, j) :: r := by
  rintro j r rfl
  exact hnr j (r ++ [s]) rfl
 have bat := backOk_at ps outs t4
 have bne := backOk_ne ps outs t4
 have hbd : ∀ b, some b ∈ backsOf ps outs → b ∈ ds ∧ (cellAt H1 b).isSome = true := by
  intro b hb
  obtain ⟨j, hj⟩ := List.getElem?_of_mem hb
  obtain ⟨b1, b2, _⟩ := bat j b hj
  exact ⟨g3 b (List.mem_of_getElem? b1), b2⟩
 have main : rlAt (putBack H1 (backsOf ps outs) (outsT outs)) p = rlAt st.H p ∧ shapeAt (putBack H1 (backsOf ps outs) (outsT outs)) (p ++ [s]) = shapeAt st.H (p ++ [s]) := by
  have hdead : under ds (p ++ [s]) = true → some (p ++ [s]) ∈ backsOf ps outs := by
   intro hu
   have e : E.dead = if ds = [] then none else some (fun q => under ds q && !((backsOf ps outs).any (· == some q))) := by
    rw [← t5]; split <;> rfl
   have hne : ¬ ds = [] := by rintro rfl; cases hu
   rw [e, if_neg hne] at hl
   simp only [liveB, hu, Bool.true_and, Bool.not_not, List.any_eq_true, beq_iff_eq] at hl
   obtain ⟨x, hx, rfl⟩ := hl
   exact hx
  cases hu : under ds (p ++ [s]) with
  | false =>
   have hn : ∀ d ∈ ds, ¬ d <+: p ++ [s] := under_false hu
   have hnp' : ∀ d ∈ ds, ¬ d <+: p := fun d hd hp => hn d hd (hp.trans (List.prefix_append _ _))
   obtain ⟨a1, a2⟩ := putBack_soft (backsOf ps outs) (outsT outs) H1 p fun b hb => hnp' b (hbd b hb).1
   obtain ⟨c1, c2⟩ := putBack_soft (backsOf ps outs) (outsT outs) H1 (p ++ [s]) fun b hb => hn b (hbd b hb).1
   exact ⟨a2.trans (g2 p hnp').2, c1.trans (g2 _ hn).1⟩
  | true =>
   have hm := hdead hu
   obtain ⟨hd, hsome⟩ := hbd _ hm
   have hstrict : ∀ d ∈ ds, d <+: p ++ [s] → d = p ++ [s] := by
    rintro d hd ⟨t, ht⟩
    cases t with
    | nil => simpa using ht
    | cons s' t =>
     exfalso
     rw [← ht, g1.2 d hd s' t] at hsome
     cases hsome
   have hnp' : ∀ d ∈ ds, ¬ d <+: p := fun d hd hp => by
    have h1 := hstrict d hd (hp.trans (List.prefix_append _ _))
    have h2 := hp.length_le
    rw [h1] at h2
    simp at h2
    omega
   obtain ⟨a1, a2⟩ := putBack_soft (backsOf ps outs) (outsT outs) H1 p fun b hb => hnp' b (hbd b hb).1
   refine ⟨a2.trans (g2 p hnp').2, ?_⟩
   obtain ⟨j, hj⟩ := List.getElem?_of_mem hm
   obtain ⟨b1, b2, u, b3, b4⟩ := bat j _ hj
   rw [← b4]
   refine putBack_shape _ _ H1 _ j u hj (by simp [outsT, b3]) hsome fun k b hk hb hpre => ?_
   have he := hstrict b (hbd b (List.mem_of_getElem? hb)).1 hpre
   rcases Nat.lt_or_gt_of_ne hk with h | h
   ·exact bne k j b _ h hb hj he
   ·exact bne j k _ b h hj hb he.symm
 rw [← t5]
 split
 ·exact ⟨(rlAt_setRoot hnp).trans main.1, (shapeAt_setRoot hnr).trans main.2⟩
 ·exact main
end
end Go.Proofs.YtmedelmfkciblaaT


namespace Go.Proofs.YtmedelmfkciblaaT
set_option linter.unusedVariables false
set_option linter.unusedSimpArgs false
open Go
section
variable {P : Program} {st st' : St} {root : Nat} {H H' H1 : Hp} {E : Eff} {op : TOp}
mutual
theorem killT_off {W : List Nat} {d : Path → Bool} (hd : ∀ q, d q = true → ∃ s t, q = s :: t ∧ s.1 ∈ W) : ∀ u : TV, (∀ r ∈ W, r ∉ rootsT u) → killT d u = u
 | .rf p o l, h => by
  simp only [killT]
  split
  ·rename_i hq
   obtain ⟨s, t, rfl, hs⟩ := hd p hq
   exact absurd (by simp [rootsT]) (h s.1 hs)
  ·rfl
 | .pt p i f, h => by
  simp only [killT]
  split
  ·rename_i hq
   obtain ⟨s, t, rfl, hs⟩ := hd p hq
   exact absurd (by simp [rootsT]) (h s.1 hs)
  ·rfl
 | .ag cs, h => by simp only [killT]; rw [killL_off hd cs h]
 | .tu cs, h => by simp only [killT]; rw [killL_off hd cs h]
 | .fn g cs, h => by simp only [killT]; rw [killL_off hd cs h]
 | .b _, _ => rfl
 | .i .., _ => rfl
 | .f _, _ => rfl
 | .s _, _ => rfl
 | .np, _ => rfl
 | .sl .., _ => rfl
 | .po .., _ => rfl
 | .junk, _ => rfl
 | .pin _, _ => rfl
theorem killL_off {W : List Nat} {d : Path → Bool} (hd : ∀ q, d q = true → ∃ s t, q = s :: t ∧ s.1 ∈ W) : ∀ us : List TV, (∀ r ∈ W, r ∉ rootsL us) → killL d us = us
 | [], _ => rfl
 | u :: us, h => by
  simp only [killL]
  rw [killT_off hd u fun r hr hm => h r hr (by simp [rootsL, hm]), killL_off hd us fun r hr hm => h r hr (by simp [rootsL, hm])]
end
mutual
theorem killT_nj {d : Path → Bool} : ∀ u : TV, njT (killT d u) = true → killT d u = u
 | .rf p o l, h => by
  simp only [killT] at h ⊢
  split
  ·rename_i hq; simp only [hq, if_true, njT] at h; cases h
  ·rfl
 | .pt p i f, h => by
  simp only [killT] at h ⊢
  split
  ·rename_i hq; simp only [hq, if_true, njT] at h; cases h
  ·rfl
 | .ag cs, h => by simp only [killT, njT] at h ⊢; rw [killL_nj cs h]
 | .tu cs, h => by simp only [killT, njT] at h ⊢; rw [killL_nj cs h]
 | .fn g cs, h => by simp only [killT, njT] at h ⊢; rw [killL_nj cs h]
 | .b _, _ => rfl
 | .i .., _ => rfl
 | .f _, _ => rfl
 | .s _, _ => rfl
 | .np, _ => rfl
 | .sl .., _ => rfl
 | .po .., _ => rfl
 | .junk, _ => rfl
 | .pin _, _ => rfl
theorem killL_nj {d : Path → Bool} : ∀ us : List TV, njL (killL d us) = true → killL d us = us
 | [], _ => rfl
 | u :: us, h => by
  simp only [killL, njL, Bool.and_eq_true] at h ⊢
  rw [killT_nj u h.1, killL_nj us h.2]
end
mutual
theorem killT_comm (d e : Path → Bool) : ∀ u : TV, killT d (killT e u) = killT e (killT d u)
 | .rf p o l => by cases h1 : d p <;> cases h2 : e p <;> simp [killT, h1, h2]
 | .pt p i f => by cases h1 : d p <;> cases h2 : e p <;> simp [killT, h1, h2]
 | .ag cs => by simp only [killT]; rw [killL_comm d e cs]
 | .tu cs => by simp only [killT]; rw [killL_comm d e cs]
 | .fn g cs => by simp only [killT]; rw [killL_comm d e cs]
 | .b _ => rfl
 | .i .. => rfl
 | .f _ => rfl
 | .s _ => rfl
 | .np => rfl
 | .sl .. => rfl
 | .po .. => rfl
 | .junk => rfl
 | .pin _ => rfl
theorem killL_comm (d e : Path → Bool) : ∀ us : List TV, killL d (killL e us) = killL e (killL d us)
 | [] => rfl
 | u :: us => by simp only [killL]; rw [killT_comm d e u, killL_comm d e us]
end
theorem deadT_comm (d e : Option (Path → Bool)) (u : TV) : deadT d (deadT e u) = deadT e (deadT d u) := by
 cases d <;> cases e <;> first | rfl | exact killT_comm _ _ u
theorem deadT_off {W : List Nat} {d : Option (Path → Bool)} (hd : ∀ q, deadB d q = true → ∃ s t, q = s :: t ∧ s.1 ∈ W) (u : TV) (h : ∀ r ∈ W, r ∉ rootsT u) : deadT d u = u := by
 cases d with
 | none => rfl
 | some d => exact killT_off (W := W) hd u h
theorem gB_dead (w : Bool) (d : Option (Path → Bool)) (u : TV) : gB w (deadT d u) = gB w u := by
 cases d with
 | none => rfl
 | some d =>
  cases u <;> simp only [deadT, killT] <;> first
   | rfl
   | (split <;> rfl)
theorem deadT_nj {d : Option (Path → Bool)} {u : TV} (h : njT (deadT d u) = true) : deadT d u = u := by
 cases d with
 | none => rfl
 | some d => exact killT_nj u h
theorem opT_congr0 {op : TOp} (ht : ∀ k ∈ opTm op, st'.t k = st.t k) : opT st' op = opT st op := by
 have e : ∀ x : TOpd, (∀ k ∈ x.tm, k ∈ opTm op) → x.ev st' = x.ev st := fun x hx => ev_loc fun k hk => ht k (hx k hk)
 have eO : ∀ x : Option TOpd, (∀ k ∈ tmsO x, k ∈ opTm op) → evO st' x = evO st x := fun x hx => by
  cases x with
  | none => rfl
  | some x => simp only [evO]; rw [e x fun k hk => hx k (by simpa [tmsO] using hk)]
 cases op <;> simp only [opT, opTm] at e eO ⊢
 case build zero ps => congr 1; exact List.map_congr_left fun p hp => e _ fun k hk => List.mem_flatMap.2 ⟨p, hp, hk⟩
 case bslice z l zero ps => congr 1; exact List.map_congr_left fun p hp => e _ fun k hk => List.mem_flatMap.2 ⟨p, hp, hk⟩
 case mkfn g caps => exact List.map_congr_left fun p hp => e _ fun k hk => List.mem_flatMap.2 ⟨p, hp, hk⟩
 case call g args => exact List.map_congr_left fun p hp => e _ fun k hk => List.mem_flatMap.2 ⟨p, hp, hk⟩
 case callv f args =>
  rw [e f fun k hk => by simp [hk]]
  congr 1
  exact List.map_congr_left fun p hp => e _ fun k hk => List.mem_append_right _ (List.mem_flatMap.2 ⟨p, hp, hk⟩)
 case slice s z x lo hi =>
  rw [e x fun k hk => by simp [hk], eO lo fun k hk => by simp [hk], eO hi fun k hk => by simp [hk]]
 all_goals first
  | (rw [e _ fun k hk => hk])
  | (rw [e _ fun k hk => List.mem_append_left _ hk, e _ fun k hk => List.mem_append_right _ hk])
  | (rename_i c a b; rw [e c fun k hk => by simp [hk], e a fun k hk => by simp [hk], e b fun k hk => by simp [hk]])
  | (rename_i z by_ zero l c; rw [e l fun k hk => by simp [hk], e c fun k hk => by simp [hk]])
theorem opT_congr {op : TOp} (ht : SameT st st' op) : opT st' op = opT st op := by
 cases op with
 | ext k x => exact ht.1
 | _ => exact opT_congr0 ht
def isExt : TOp → Bool
 | .ext .. => true
 | _ => false
theorem tm_in {k : Nat} (he : isExt op = false) : k ∈ opTm op → st.t k ∈ opT st op := by
 have e : ∀ x : TOpd, k ∈ x.tm → st.t k = x.ev st := fun x hx => by
  cases x with
  | t n => simp only [TOpd.tm, List.mem_singleton] at hx; subst hx; rfl
  | c v => simp [TOpd.tm] at hx
 have eO : ∀ x : Option TOpd, k ∈ tmsO x → st.t k ∈ evO st x := fun x hx => by
  cases x with
  | none => simp [tmsO] at hx
  | some x => simp only [evO, List.mem_singleton]; exact e x hx
 intro h
 cases op <;> simp only [opTm, opT, List.mem_append, List.mem_flatMap] at h ⊢
 case build zero ps => obtain ⟨p, hp, hk⟩ := h; exact .inr (List.mem_map.2 ⟨p, hp, (e _ hk).symm⟩)
 case bslice z l zero ps => obtain ⟨p, hp, hk⟩ := h; exact .inr (List.mem_map.2 ⟨p, hp, (e _ hk).symm⟩)
 case mkfn g caps => obtain ⟨p, hp, hk⟩ := h; exact List.mem_map.2 ⟨p, hp, (e _ hk).symm⟩
 case call g args => obtain ⟨p, hp, hk⟩ := h; exact List.mem_map.2 ⟨p, hp, (e _ hk).symm⟩
 case callv f args =>
  rcases h with h | ⟨p, hp, hk⟩
  ·exact List.mem_cons.2 (.inl (e _ h))
  ·exact List.mem_cons.2 (.inr (List.mem_map.2 ⟨p, hp, (e _ hk).symm⟩))
 case slice s z x lo hi =>
  rcases h with (h | h) | h
  ·exact .inl (.inl (by simp [e _ h]))
  ·exact .inl (.inr (eO _ h))
  ·exact .inr (eO _ h)
 case pick c a b =>
  rcases h with (h | h) | h <;> simp [e _ h]
 case ext => cases he
 all_goals first
  | (simp [e _ h]; done)
  | (rcases h with h | h <;> simp [e _ h])
theorem rootsL_in {us : List TV} {u : TV} (h : u ∈ us) {r : Nat} (hr : r ∈ rootsT u) : r ∈ rootsL us := rootsL_mem.2 ⟨u, h, hr⟩
theorem njL_in {us : List TV} {u : TV} (h : u ∈ us) (hn : njL us = true) : njT u = true := by
 induction us with
 | nil => cases h
 | cons a us ih =>
  simp only [njL, Bool.and_eq_true] at hn
  rcases List.mem_cons.1 h with rfl | h
  ·exact hn.1
  ·exact ih h hn.2
theorem opW_pure (hw : canWr op = false) (h : opW P st root op (· = E)) : ∃ v, E = val st v := by
 cases op with
 | bin o x y =>
  simp only [opW] at h
  obtain ⟨v, _, h2⟩ := binT_one h
  exact ⟨v, h2.symm⟩
 | slice str z x lo hi =>
  cases str with
  | true =>
   simp only [opW] at h
   split at h
   case h_2 => exact h.elim
   obtain ⟨l, _, h, _⟩ := optB_one h
   obtain ⟨u, _, h, _⟩ := optB_one h
   exact ⟨_, h.2.2.2.symm⟩
  | false =>
   simp only [opW] at h
   split at h
   ·obtain ⟨_, h⟩ := h
    obtain ⟨l, _, h, _⟩ := optB_one h
    obtain ⟨u, _, h, _⟩ := optB_one h
    exact ⟨_, h.2.2.2.symm⟩
   ·obtain ⟨l, _, h, _⟩ := optB_one h
    obtain ⟨u, _, h, _⟩ := optB_one h
    exact ⟨_, h.2.2.symm⟩
   ·obtain ⟨_, h⟩ := h
    obtain ⟨l, _, h, _⟩ := optB_one h
    obtain ⟨u, _, h, _⟩ := optB_one h
    exact ⟨_, h.2.2.2.symm⟩
   ·exact h.elim
 | load g n a =>
  simp only [opW] at h
  split at h
  ·split at h
   ·cases g with
    | true => exact ⟨_, h.2.symm⟩
    | false => exact ⟨_, h.2.2.symm⟩
   ·exact h.elim
  ·cases g with
   | true => exact ⟨_, h.2.symm⟩
   | false => exact ⟨_, h.2.2.symm⟩
  ·exact h.elim
 | fld g off n x =>
  simp only [opW] at h
  split at h
  ·cases g with
   | true => exact ⟨_, h.2.symm⟩
   | false => exact ⟨_, h.2.2.symm⟩
  ·exact h.elim
 | box => cases hw
 | bslice => cases hw
 | store => cases hw
 | mkslice => cases hw
 | app => cases hw
 | call => cases hw
 | callv => cases hw
 | _ =>
  simp only [opW] at h
  repeat' split at h
  all_goals first
   | exact h.elim
   | exact ⟨_, h.symm⟩
   | exact ⟨_, h.2.symm⟩
   | exact ⟨_, h.2.2.symm⟩
   | exact ⟨_, h.2.2.2.symm⟩
theorem voOf_congr {op : TOp} {v : TV} (ht : SameT st st' op) : voOf st' v op = voOf st v op := by
 cases op with
 | mv x => simp only [voOf]; rw [ev_loc (st := st) (st' := st') (fun k hk => ht k (by simpa [opTm] using hk))]
 | nilck x => simp only [voOf]; rw [ev_loc (st := st) (st' := st') (fun k hk => ht k (by simpa [opTm] using hk))]
 | faddr off n x => simp only [voOf]; rw [ev_loc (st := st) (st' := st') (fun k hk => ht k (by simpa [opTm] using hk))]
 | iaddr z x ix =>
  simp only [voOf]
  rw [ev_loc (x := x) (st := st) (st' := st') (fun k hk => ht k (by simp [opTm, hk])), ev_loc (x := ix) (st := st) (st' := st') (fun k hk => ht k (by simp [opTm, hk]))]
 | load agg n x =>
  cases agg <;> (simp only [voOf]; rw [ev_loc (st := st) (st' := st') (fun k hk => ht k (by simpa [opTm] using hk))])
 | _ => rfl
mutual
theorem killT_live {d : Path → Bool} : ∀ u : TV, liveT (some d) u = true → killT d u = u
 | .rf p o l, h => by
  simp only [liveT, liveB, Bool.not_eq_true'] at h
  simp [killT, h]
 | .pt p i f, h => by
  simp only [liveT, liveB, Bool.not_eq_true'] at h
  simp [killT, h]
 | .ag cs, h => by simp only [liveT] at h; simp only [killT]; rw [killL_live cs h]
 | .tu cs, h => by simp only [liveT] at h; simp only [killT]; rw [killL_live cs h]
 | .fn g cs, h => by simp only [liveT] at h; simp only [killT]; rw [killL_live cs h]
 | .b _, _ => rfl
 | .i .., _ => rfl
 | .f _, _ => rfl
 | .s _, _ => rfl
 | .np, _ => rfl
 | .sl .., _ => rfl
 | .po .., _ => rfl
 | .junk, _ => rfl
 | .pin _, _ => rfl
theorem killL_live {d : Path → Bool} : ∀ us : List TV, liveL (some d) us = true → killL d us = us
 | [], _ => rfl
 | u :: us, h => by
  simp only [liveL, Bool.and_eq_true] at h
  simp only [killL]
  rw [killT_live u h.1, killL_live us h.2]
end
theorem deadT_live {d : Option (Path → Bool)} {u : TV} (h : liveT d u = true) : deadT d u = u := by
 cases d with
 | none => rfl
 | some d => exact killT_live u h
def StepF (P : Program) (st : St) (o : TOper) (E : Eff) (f : Foot) : Prop :=
 wantW st o.guard fun b => (b = true → opW P st o.root o.op (· = E) ∧ f = footOf st o E) ∧ (b = false → E = val st (.tu []) ∧ f = foot0 o)
theorem undef_put (st : St) (dst : Option Nat) : st.put dst (val st (.tu [])) = st.undef dst := by
 unfold St.put St.undef val
 simp only [deadT]
 congr 1
 funext q
 unfold orgPut
 cases q <;> simp [deadB]
def Run (P : Program) (it : Nat → TOper × Foot) : List Nat → St → St → Prop
 | [], st, st' => st = st'
 | i :: is, st, st' => ∃ E, StepF P st (it i).1 E (it i).2 ∧ Run P it is (st.put (it i).1.dst E) st'
structure IndF (f g : Foot) : Prop where
 a : ∀ r ∈ f.wr, r ∉ g.rd ∧ r ∉ g.wr ∧ r ≠ g.root ∧ r ∉ g.vr
 n : f.wr ≠ [] → g.nj = true
 b : ∀ r ∈ g.wr, r ∉ f.rd ∧ r ≠ f.root ∧ r ∉ f.vr
theorem disj_spec {a b : List Nat} (h : disj a b = true) : ∀ r ∈ a, r ∉ b := by
 intro r hr
 have := List.all_eq_true.1 h r hr
 simpa using this
theorem indF_of {f g : Foot} (h : pair1 f g = true) : IndF f g := by
 simp only [pair1, Bool.and_eq_true, Bool.or_eq_true, List.isEmpty_iff] at h
 obtain ⟨h1, h2⟩ := h
 refine ⟨fun r hr => ?_, fun hn => ?_, fun r hr => ?_⟩
 ·rcases h1 with h1 | h1
  ·rw [h1] at hr; cases hr
  ·have := disj_spec h1.1 r hr
   simp only [List.mem_cons, List.mem_append, not_or] at this
   exact ⟨this.2.1.1, this.2.1.2, this.1, this.2.2⟩
 ·rcases h1 with h1 | h1
  ·exact absurd h1 hn
  ·exact h1.2
 ·rcases h2 with h2 | h2
  ·rw [h2] at hr; cases hr
  ·have := disj_spec h2 r hr
   simp only [List.mem_cons, List.mem_append, not_or] at this
   exact ⟨this.2.1, this.1, this.2.2⟩
structure IndT (x y : TOper) : Prop where
 a : ∀ d, x.dst = some d → d ∉ lookT y ∧ y.dst ≠ some d
 b : ∀ d, y.dst = some d → d ∉ lookT x
theorem indT_of {x y : TOper} (h : apartT x y = true) : IndT x y := by
 simp only [apartT, Bool.and_eq_true] at h
 refine ⟨fun d hd => ?_, fun d hd => ?_⟩
 ·simp only [hd, Bool.and_eq_true, Bool.not_eq_true', bne_iff_ne, ne_eq] at h
  exact ⟨by simpa using h.1.1, h.1.2⟩
 ·simp only [hd, Bool.not_eq_true'] at h
  simpa using h.2
theorem step_loc {o : TOper} {f : Foot} (h : StepF P st o E f) (hg : ∀ k ∈ guardTm o.guard, ∀ w, gB w (st'.t k) = gB w (st.t k))
  (ha : f = footOf st o E → opW P st o.root o.op (· = E) → AgrS st st' o.op o.root) : ∃ E', StepF P st' o E' f ∧ LocE st st' E E' := by
 have key : ∀ b, ((b = true → opW P st o.root o.op (· = E) ∧ f = footOf st o E) ∧ (b = false → E = val st (.tu []) ∧ f = foot0 o)) →
   ∃ E', ((b = true → opW P st' o.root o.op (· = E') ∧ f = footOf st' o E') ∧ (b = false → E' = val st' (.tu []) ∧ f = foot0 o)) ∧ LocE st st' E E' := by
  intro b hb
  cases b with
  | true =>
   obtain ⟨h1, h2⟩ := hb.1 rfl
   have hagr := ha h2 h1
   obtain ⟨E', g1, g2⟩ := opW_loc h1 hagr
   refine ⟨E', ⟨fun _ => ⟨g1, ?_⟩, fun h => by cases h⟩, g2⟩
   rw [h2]; simp only [footOf, opT_congr hagr.t, g2.wr, g2.v, g2.dead, voOf_congr hagr.t]
  | false =>
   obtain ⟨h1, h2⟩ := hb.2 rfl
   subst h1
   exact ⟨_, ⟨fun h => (by cases h), fun _ => ⟨rfl, h2⟩⟩, LocE.val _⟩
 unfold StepF at h ⊢
 cases hgd : o.guard with
 | none =>
  rw [hgd] at h
  exact key true h
 | some tw =>
  obtain ⟨t, w⟩ := tw
  rw [hgd] at h hg
  simp only [wantW] at h ⊢
  split at h
  case h_2 => exact h.elim
  rename_i x hx
  rw [hg t (by simp [guardTm]) w, hx]
  exact key _ h
theorem sameT_refl (st : St) (op : TOp) : SameT st st op := by
 cases op with
 | ext k x => exact ⟨rfl, fun vs h => ⟨vs, h, rfl⟩⟩
 | _ => exact fun _ _ => rfl
theorem sameT_of {op : TOp} (he : isExt op = false) (h : ∀ k ∈ opTm op, st'.t k = st.t k) : SameT st st' op := by
 cases op with
 | ext k x => cases he
 | _ => exact h
theorem agr_refl (st : St) (op : TOp) (root : Nat) : AgrS st st op root := ⟨sameT_refl _ _, fun _ _ => rfl, rfl, fun _ _ _ => rfl⟩
theorem step_self {o : TOper} {f : Foot} (h : StepF P st o E f) : (∀ r, r ∉ E.wr → E.H r = st.H r) ∧ (∀ r, E.nr = some r → r ∈ E.wr) ∧ (∀ q, deadB E.dead q = true → ∃ s t, q = s :: t ∧ s.1 ∈ E.wr) := by
 obtain ⟨E', _, h2⟩ := step_loc (st' := st) h (fun _ _ _ => rfl) (fun _ _ => agr_refl _ _ _)
 exact ⟨h2.off, h2.nrw, h2.ded⟩
theorem step_foot {o : TOper} {f : Foot} (h : StepF P st o E f) : f.wr = E.wr ∧ f.vr = rootsT E.v ∧ f.root = o.root := by
 have key : ∀ b, ((b = true → opW P st o.root o.op (· = E) ∧ f = footOf st o E) ∧ (b = false → E = val st (.tu []) ∧ f = foot0 o)) → f.wr = E.wr ∧ f.vr = rootsT E.v ∧ f.root = o.root := by
  intro b hb
  cases b with
  | true => obtain ⟨_, rfl⟩ := hb.1 rfl; exact ⟨rfl, rfl, rfl⟩
  | false => obtain ⟨rfl, rfl⟩ := hb.2 rfl; exact ⟨rfl, rfl, rfl⟩
 unfold StepF at h
 cases hgd : o.guard with
 | none => rw [hgd] at h; exact key true h
 | some tw =>
  obtain ⟨t, w⟩ := tw
  rw [hgd] at h
  simp only [wantW] at h
  split at h
  case h_2 => exact h.elim
  exact key _ h
theorem step_pure {o : TOper} {f : Foot} (h : StepF P st o E f) (hw : canWr o.op = false) : f.wr = [] := by
 have key : ∀ b, ((b = true → opW P st o.root o.op (· = E) ∧ f = footOf st o E) ∧ (b = false → E = val st (.tu []) ∧ f = foot0 o)) → f.wr = [] := by
  intro b hb
  cases b with
  | true => obtain ⟨h1, rfl⟩ := hb.1 rfl; obtain ⟨v, rfl⟩ := opW_pure hw h1; rfl
  | false => obtain ⟨rfl, rfl⟩ := hb.2 rfl; rfl
 unfold StepF at h
 cases hgd : o.guard with
 | none => rw [hgd] at h; exact key true h
 | some tw =>
  obtain ⟨t, w⟩ := tw
  rw [hgd] at h
  simp only [wantW] at h
  split at h
  case h_2 => exact h.elim
  exact key _ h
theorem deadT_tu {d : Option (Path → Bool)} {u : TV} {vs : List TV} (h : deadT d u = .tu vs) : ∃ vs0, u = .tu vs0 ∧ ∀ k : Nat, vs[k]? = (vs0[k]?).map (deadT d) := by
 cases d with
 | none => exact ⟨vs, h, fun k => by cases vs[k]? <;> rfl⟩
 | some d =>
  cases u <;> simp only [deadT, killT] at h <;> first
   | (split at h <;> cases h)
   | (cases h; done)
   | (rename_i vs0; injection h with h; refine ⟨vs0, rfl, fun k => ?_⟩; rw [← h, killL_eq, List.getElem?_map]; rfl)
theorem tu_deadT {d : Option (Path → Bool)} (vs : List TV) : ∃ vs', deadT d (.tu vs) = .tu vs' ∧ ∀ k : Nat, vs'[k]? = (vs[k]?).map (deadT d) := by
 cases d with
 | none => exact ⟨vs, rfl, fun k => by cases vs[k]? <;> rfl⟩
 | some d => exact ⟨killL d vs, rfl, fun k => by rw [killL_eq, List.getElem?_map]; rfl⟩
theorem opW_extTu {k : Nat} {x : TOpd} (h : opW P st root (.ext k x) (· = E)) : ∃ vs, x.ev st = .tu vs := by
 simp only [opW] at h
 split at h
 ·rename_i vs hx; exact ⟨vs, hx⟩
 ·exact h.elim
theorem step_swap {x y : TOper} {f g : Foot} {E2 : Eff} (hx : StepF P st x E f) (hy : StepF P (st.put x.dst E) y E2 g) (hT : IndT x y) (hI : IndF f g) :
  ∃ E2' E', StepF P st y E2' g ∧ StepF P (st.put y.dst E2') x E' f ∧ (st.put y.dst E2').put x.dst E' = (st.put x.dst E).put y.dst E2 := by
 obtain ⟨fw, fv, fr⟩ := step_foot hx
 obtain ⟨gw, gv, gr⟩ := step_foot hy
 obtain ⟨off1, nrw1, ded1⟩ := step_self hx
 obtain ⟨off2, nrw2, ded2⟩ := step_self hy
 have ht1 : ∀ k ∈ lookT y, (st.put x.dst E).t k = deadT E.dead (st.t k) := by
  intro k hk
  have : x.dst ≠ some k := fun h => (hT.a k h).1 hk
  simp [St.put, this]
 have alive1 : ∀ u, njT (deadT E.dead u) = true ∨ E.wr = [] → deadT E.dead u = u := by
  rintro u (h | h)
  ·exact deadT_nj h
  ·exact deadT_off (W := []) (fun q hq => by obtain ⟨s, t, h1, h2⟩ := ded1 q hq; rw [h] at h2; cases h2) u (by simp)
 have hag1 : g = footOf (st.put x.dst E) y E2 → opW P (st.put x.dst E) y.root y.op (· = E2) → AgrS (st.put x.dst E) st y.op y.root := by
  intro hg hop
  have htm0 : isExt y.op = false → ∀ k ∈ opTm y.op, st.t k = (st.put x.dst E).t k := by
   intro he k hk
   have h1 := ht1 k (by simp [lookT, hk])
   rw [h1]
   symm
   refine alive1 _ ?_
   by_cases hw : E.wr = []
   ·exact .inr hw
   ·left
    have hn := hI.n (by rw [fw]; exact hw)
    rw [hg] at hn
    rw [← h1]
    exact njL_in (tm_in he hk) hn
  have htm : SameT (st.put x.dst E) st y.op := by
   cases he : isExt y.op with
   | false => exact sameT_of he (htm0 he)
   | true =>
    cases hyo : y.op with
    | ext k o =>
     rw [hyo] at hop
     obtain ⟨vs, hvs⟩ := opW_extTu hop
     cases o with
     | c v => exact ⟨rfl, fun vs h => ⟨vs, h, rfl⟩⟩
     | t n =>
      have h1 := ht1 n (by simp [lookT, hyo, opTm, TOpd.tm])
      have hvs' : (st.put x.dst E).t n = .tu vs := hvs
      rw [h1] at hvs'
      obtain ⟨vs0, e1, e2⟩ := deadT_tu hvs'
      have hk : vs0[k]? = vs[k]? := by
       rw [e2 k]
       cases h0 : vs0[k]? with
       | none => rfl
       | some u =>
        simp only [Option.map_some]
        congr 1; symm
        refine alive1 u ?_
        by_cases hw : E.wr = []
        ·exact .inr hw
        ·left
         have hn := hI.n (by rw [fw]; exact hw)
         rw [hg] at hn
         refine njL_in (us := opT (st.put x.dst E) y.op) ?_ hn
         rw [hyo]
         show deadT E.dead u ∈ extT k ((st.put x.dst E).t n)
         rw [h1, hvs']
         simp [extT, e2 k, h0]
      refine ⟨?_, fun vs1 h => ⟨vs0, e1, ?_⟩⟩
      ·show extT k (st.t n) = extT k ((st.put x.dst E).t n)
       rw [h1, hvs', e1]; simp only [extT, hk]
      ·have h2 : (st.put x.dst E).t n = .tu vs1 := h
       rw [h1, hvs'] at h2; cases h2; exact hk
    | _ => rw [hyo] at he; cases he
  refine ⟨htm, fun r hr => ?_, ?_, fun s t hs => ?_⟩
  ·have : r ∉ E.wr := fun hw => (hI.a r (by rw [fw]; exact hw)).1 (by rw [hg]; exact hr)
   exact (off1 r this).symm
  ·have : y.root ∉ E.wr := fun hw => (hI.a y.root (by rw [fw]; exact hw)).2.2.1 gr.symm
   exact (off1 _ this).symm
  ·have : s.1 ∉ E.wr := fun hw => (hI.a s.1 (by rw [fw]; exact hw)).1 (by rw [hg]; exact hs)
   simp only [St.put, orgPut]
   rw [if_neg (fun h => this (nrw1 _ h)), if_neg]
   intro hd
   obtain ⟨s', t', h1, h2⟩ := ded1 _ hd
   cases h1; exact this h2
 obtain ⟨E2', hy', L2⟩ := step_loc (st' := st) hy (fun k hk w => by
   rw [ht1 k (by simp [lookT, hk]), gB_dead]) (fun hg hop => hag1 hg hop)
 have ht2 : ∀ k ∈ lookT x, (st.put y.dst E2').t k = deadT E2'.dead (st.t k) := by
  intro k hk
  have : y.dst ≠ some k := fun h => hT.b k h hk
  simp [St.put, this]
 have ded2' : ∀ q, deadB E2'.dead q = true → ∃ s t, q = s :: t ∧ s.1 ∈ E2.wr := by rw [L2.dead]; exact ded2
 have hag2 : f = footOf st x E → opW P st x.root x.op (· = E) → AgrS st (st.put y.dst E2') x.op x.root := by
  intro hf hop
  refine ⟨?_, fun r hr => ?_, ?_, fun s t hs => ?_⟩
  ·cases he : isExt x.op with
   | false =>
    refine sameT_of he fun k hk => ?_
    rw [ht2 k (by simp [lookT, hk])]
    refine deadT_off ded2' _ fun r hr hm => (hI.b r (by rw [gw]; exact hr)).1 ?_
    rw [hf]; exact rootsL_in (tm_in he hk) hm
   | true =>
    cases hxo : x.op with
    | ext k o =>
     rw [hxo] at hop
     obtain ⟨vs, hvs⟩ := opW_extTu hop
     cases o with
     | c v => exact ⟨rfl, fun vs h => ⟨vs, h, rfl⟩⟩
     | t n =>
      have h1 := ht2 n (by simp [lookT, hxo, opTm, TOpd.tm])
      have hvs' : st.t n = .tu vs := hvs
      rw [hvs'] at h1
      obtain ⟨vs1, e1, e2⟩ := tu_deadT (d := E2'.dead) vs
      have hk : vs1[k]? = vs[k]? := by
       rw [e2 k]
       cases h0 : vs[k]? with
       | none => rfl
       | some u =>
        simp only [Option.map_some]
        congr 1
        refine deadT_off ded2' _ fun r hr hm => (hI.b r (by rw [gw]; exact hr)).1 ?_
        rw [hf]
        refine rootsL_in (us := opT st x.op) ?_ hm
        rw [hxo]
        show u ∈ extT k (st.t n)
        rw [hvs']; simp [extT, h0]
      refine ⟨?_, fun vs2 h => ⟨vs1, by show (st.put y.dst E2').t n = _; rw [h1, e1], ?_⟩⟩
      ·show extT k ((st.put y.dst E2').t n) = extT k (st.t n)
       rw [h1, e1, hvs']; simp only [extT, hk]
      ·have h2 : st.t n = .tu vs2 := h
       rw [hvs'] at h2; cases h2; exact hk
    | _ => rw [hxo] at he; cases he
  ·have : r ∉ E2.wr := fun hw => (hI.b r (by rw [gw]; exact hw)).1 (by rw [hf]; exact hr)
   exact (L2.mix r).2 this
  ·have : x.root ∉ E2.wr := fun hw => (hI.b x.root (by rw [gw]; exact hw)).2.1 fr.symm
   exact (L2.mix _).2 this
  ·have : s.1 ∉ E2.wr := fun hw => (hI.b s.1 (by rw [gw]; exact hw)).1 (by rw [hf]; exact hs)
   simp only [St.put, orgPut]
   rw [if_neg (fun h => this (nrw2 _ (by rw [← L2.nr]; exact h))), if_neg]
   intro hd
   obtain ⟨s', t', h1, h2⟩ := ded2' _ hd
   cases h1; exact this h2
 obtain ⟨E', hx', L1⟩ := step_loc (st' := st.put y.dst E2') hx (fun k hk w => by
   rw [ht2 k (by simp [lookT, hk]), gB_dead]) (fun hf hop => hag2 hf hop)
 refine ⟨E2', E', hy', hx', ?_⟩
 have hdis : ∀ r, r ∈ E.wr → r ∉ E2.wr := fun r hr hm => (hI.a r (by rw [fw]; exact hr)).2.1 (by rw [gw]; exact hm)
 have et : ((st.put y.dst E2').put x.dst E').t = ((st.put x.dst E).put y.dst E2).t := by
  funext k
  simp only [St.put]
  by_cases h1 : x.dst = some k
  ·have h2 : y.dst ≠ some k := (hT.a k h1).2
   simp only [h1, if_true, h2, if_false]
   rw [L1.v]
   exact (deadT_off ded2 _ fun r hr hm => (hI.b r (by rw [gw]; exact hr)).2.2 (by rw [fv]; exact hm)).symm
  ·by_cases h2 : y.dst = some k
   ·simp only [h1, if_false, h2, if_true]
    rw [L2.v, L1.dead]
    exact deadT_off ded1 _ fun r hr hm => (hI.a r (by rw [fw]; exact hr)).2.2.2 (by rw [gv]; exact hm)
   ·simp only [h1, if_false, h2]
    rw [L1.dead, L2.dead, deadT_comm]
 have eH : ((st.put y.dst E2').put x.dst E').H = ((st.put x.dst E).put y.dst E2).H := by
  funext r
  show E'.H r = E2.H r
  by_cases h2 : r ∈ E2.wr
  ·have h1 : r ∉ E.wr := fun h => hdis r h h2
   rw [(L1.mix r).2 h1]
   exact (L2.mix r).1 h2
  ·rw [off2 r h2]
   show E'.H r = E.H r
   by_cases h1 : r ∈ E.wr
   ·exact (L1.mix r).1 h1
   ·rw [(L1.mix r).2 h1, off1 r h1]
    exact (L2.mix r).2 h2
 have eo : ((st.put y.dst E2').put x.dst E').org = ((st.put x.dst E).put y.dst E2).org := by
  funext q
  cases q with
  | nil => rfl
  | cons s t =>
   simp only [St.put, orgPut]
   rw [L1.nr, L1.norg, L1.dead, L2.nr, L2.norg, L2.dead]
   by_cases h1 : E.nr = some s.1
   ·have m1 := nrw1 _ h1
    have m2 : s.1 ∉ E2.wr := hdis _ m1
    have n2 : E2.nr ≠ some s.1 := fun h => m2 (nrw2 _ h)
    have d2 : deadB E2.dead (s :: t) = false := by
     cases hd : deadB E2.dead (s :: t) with
     | false => rfl
     | true => obtain ⟨s', t', h3, h4⟩ := ded2 _ hd; cases h3; exact absurd h4 m2
    simp [h1, n2, d2]
   ·by_cases h2 : E2.nr = some s.1
    ·have m2 := nrw2 _ h2
     have d1 : deadB E.dead (s :: t) = false := by
      cases hd : deadB E.dead (s :: t) with
      | false => rfl
      | true => obtain ⟨s', t', h3, h4⟩ := ded1 _ hd; cases h3; exact absurd m2 (hdis _ h4)
     simp [h1, h2, d1]
    ·simp only [h1, h2, if_false]
     cases deadB E.dead (s :: t) <;> cases deadB E2.dead (s :: t) <;> simp
 cases h1 : (st.put y.dst E2').put x.dst E' with
 | mk t1 H1 o1 =>
  cases h2 : (st.put x.dst E).put y.dst E2 with
  | mk t2 H2 o2 =>
   rw [h1, h2] at et eH eo
   simp only at et eH eo
   rw [et, eH, eo]
theorem vo_two {v : TV} {op : TOp} {us : List TV} (h : voOf st v op = some us) (h2 : us.length = 2) : (∃ x, op = .mv x) ∨ ∃ x, op = .nilck x := by
 cases op with
 | mv x => exact .inl ⟨x, rfl⟩
 | nilck x => exact .inr ⟨x, rfl⟩
 | faddr off n x => simp only [voOf, Option.some.injEq] at h; subst h; cases h2
 | iaddr z x ix => simp only [voOf, Option.some.injEq] at h; subst h; cases h2
 | load agg n x =>
  cases agg with
  | true =>
   simp only [voOf] at h
   unfold voA at h
   split at h
   ·split at h
    ·simp only [Option.some.injEq] at h; subst h; cases h2
    ·cases h
   ·cases h
  | false =>
   simp only [voOf] at h
   unfold voL at h
   split at h
   ·simp only [Option.some.injEq] at h; subst h; cases h2
   ·simp only [Option.some.injEq] at h; subst h; cases h2
   ·cases h
 | app z b s x => simp only [voOf, Option.some.injEq] at h; subst h; cases h2
 | call g as => simp only [voOf, Option.some.injEq] at h; subst h; cases h2
 | _ => cases h
theorem step_vo {o : TOper} {f : Foot} {us : List TV} (h : StepF P st o E f) (hv : f.vo = some us) (h2 : us.length = 2) :
    f = footOf st o E ∧ ∃ v, E = val st v ∧ us = v :: opT st o.op ∧ (∀ k ∈ opTm o.op, st.t k ∈ opT st o.op) ∧
      ∀ st' : St, (∀ k ∈ guardTm o.guard, ∀ w, gB w (st'.t k) = gB w (st.t k)) → (∀ k ∈ opTm o.op, st'.t k = st.t k) → StepF P st' o (val st' v) f := by
  have key : ∀ b, ((b = true → opW P st o.root o.op (· = E) ∧ f = footOf st o E) ∧ (b = false → E = val st (.tu []) ∧ f = foot0 o)) →
      b = true ∧ f = footOf st o E ∧ ∃ v, E = val st v ∧ us = v :: opT st o.op ∧ (∀ k ∈ opTm o.op, st.t k ∈ opT st o.op) ∧
      ∀ st' : St, (∀ k ∈ opTm o.op, st'.t k = st.t k) → (b = true → opW P st' o.root o.op (· = val st' v) ∧ f = footOf st' o (val st' v)) ∧ (b = false → val st' v = val st' (.tu []) ∧ f = foot0 o) := by
    intro b hb
    cases b with
    | false => obtain ⟨_, rfl⟩ := hb.2 rfl; cases hv
    | true =>
      obtain ⟨h1, rfl⟩ := hb.1 rfl
      refine ⟨rfl, rfl, ?_⟩
      have hv' : voOf st E.v o.op = some us := hv
      have he : ∀ x : TOpd, ∀ st' : St, (∀ k ∈ x.tm, st'.t k = st.t k) → x.ev st' = x.ev st := fun x st' h => ev_loc h
      obtain ⟨v, rfl⟩ : ∃ v, E = val st v := by
        rcases vo_two hv' h2 with ⟨x, hop⟩ | ⟨x, hop⟩ <;> rw [hop] at h1 <;> exact opW_pure rfl h1
      refine ⟨v, rfl, ?_⟩
      have ht : ∀ x : TOpd, ∀ k ∈ x.tm, st.t k = x.ev st := fun x k hk => by
        cases x with
        | t n => simp only [TOpd.tm, List.mem_singleton] at hk; subst hk; rfl
        | c v => simp [TOpd.tm] at hk
      rcases vo_two hv' h2 with ⟨x, hop⟩ | ⟨x, hop⟩ <;> rw [hop] at hv' h1 ⊢ <;> first
        | (simp only [voOf, Option.some.injEq] at hv'
           refine ⟨hv'.symm, fun k hk => ?_, fun st' hk => ⟨fun _ => ?_, fun h => by cases h⟩⟩
           · simp only [opTm] at hk; simp only [opT, List.mem_singleton]; exact ht x k hk
           · have e1 := he x st' (fun k h => hk k (by simpa [opTm] using h))
             refine ⟨?_, ?_⟩
             · simp only [opW, e1] at h1 ⊢
               first
                 | (have := congrArg Eff.v h1; simp only [val] at this ⊢; simp [this]; done)
                 | (split at h1 <;> rename_i hx <;> first
                     | exact h1.elim
                     | (have := congrArg Eff.v h1; simp only [val] at this ⊢; simp [hx, this]; done))
             · simp only [footOf, hop, opT, voOf, e1]; rfl)
  unfold StepF at h ⊢
  cases hgd : o.guard with
  | none =>
    rw [hgd] at h
    obtain ⟨_, k1, v, k2, k3, k4, k5⟩ := key true h
    exact ⟨k1, v, k2, k3, k4, fun st' _ ht => by simpa [wantW] using k5 st' ht⟩
  | some tw =>
    obtain ⟨t, w⟩ := tw
    rw [hgd] at h
    simp only [wantW] at h
    split at h
    case h_2 => exact h.elim
    rename_i x hx
    obtain ⟨k0, k1, v, k2, k3, k4, k5⟩ := key _ h
    refine ⟨k1, v, k2, k3, k4, fun st' hg ht => ?_⟩
    simp only [wantW]
    rw [hg t (by simp [guardTm]) w, hx]
    exact k5 st' ht
theorem put_val_eq (st : St) (d : Option Nat) (v : TV) : (st.put d (val st v)).H = st.H ∧ (st.put d (val st v)).org = st.org ∧ ∀ k, (st.put d (val st v)).t k = if d = some k then v else st.t k := by
 refine ⟨rfl, ?_, fun k => ?_⟩
 ·funext q
  unfold St.put orgPut val
  cases q <;> simp [deadB]
 ·simp [St.put, val, deadT]
theorem step_dd {o : TOper} {f : Foot} (h : StepF P st o E f) : f.dd = E.dead := by
 have key : ∀ b, ((b = true → opW P st o.root o.op (· = E) ∧ f = footOf st o E) ∧ (b = false → E = val st (.tu []) ∧ f = foot0 o)) → f.dd = E.dead := by
  intro b hb
  cases b with
  | true => obtain ⟨_, rfl⟩ := hb.1 rfl; rfl
  | false => obtain ⟨rfl, rfl⟩ := hb.2 rfl; rfl
 unfold StepF at h
 cases hgd : o.guard with
 | none => rw [hgd] at h; exact key true h
 | some tw =>
  obtain ⟨t, w⟩ := tw
  rw [hgd] at h
  simp only [wantW] at h
  split at h
  case h_2 => exact h.elim
  exact key _ h
theorem sameT_all {op : TOp} (h : ∀ k ∈ opTm op, st'.t k = st.t k) : SameT st st' op := by
 cases op with
 | ext k x =>
  have e : x.ev st' = x.ev st := ev_loc (fun k hk => h k (by simpa [opTm] using hk))
  exact ⟨by rw [e], fun vs hv => ⟨vs, by rw [e]; exact hv, rfl⟩⟩
 | _ => exact h
theorem liveL_in {d : Option (Path → Bool)} {us : List TV} {u : TV} (h : u ∈ us) (hn : liveL d us = true) : liveT d u = true := by
 induction us with
 | nil => cases h
 | cons a us ih =>
  simp only [liveL, Bool.and_eq_true] at hn
  rcases List.mem_cons.1 h with rfl | h
  ·exact hn.1
  ·exact ih h hn.2
theorem locE_H {st st' : St} {E E' : Eff} (h : LocE st st' E E') (hH : st'.H = st.H) : E'.H = E.H := by
 funext r
 by_cases hr : r ∈ E.wr
 ·exact (h.mix r).1 hr
 ·rw [(h.mix r).2 hr, h.off r hr, hH]
theorem orgPut_congr {st st' : St} {E E' : Eff} (ho : st'.org = st.org) (h1 : E'.nr = E.nr) (h2 : E'.norg = E.norg) (h3 : E'.dead = E.dead) : orgPut st' E' = orgPut st E := by
 funext q
 cases q <;> simp only [orgPut, ho, h1, h2, h3]
theorem st_ext {a b : St} (h1 : a.t = b.t) (h2 : a.H = b.H) (h3 : a.org = b.org) : a = b := by
 cases a; cases b; simp only at h1 h2 h3; rw [h1, h2, h3]
theorem step_swapA {x y : TOper} {f g : Foot} {E2 : Eff} {us : List TV} (hx : StepF P st x E f) (hy : StepF P (st.put x.dst E) y E2 g) (hT : IndT x y) (hv : f.vo = some us) (h2 : us.length = 2) (hl : liveL g.dd us = true) :
  ∃ E2' E', StepF P st y E2' g ∧ StepF P (st.put y.dst E2') x E' f ∧ (st.put y.dst E2').put x.dst E' = (st.put x.dst E).put y.dst E2 := by
 obtain ⟨hf, v, rfl, rfl, htm, hgo⟩ := step_vo hx hv h2
 obtain ⟨pH, po, pt⟩ := put_val_eq st x.dst v
 rw [step_dd hy] at hl
 have hk1 : ∀ k ∈ lookT y, st.t k = (st.put x.dst (val st v)).t k := fun k hk => by
  rw [pt, if_neg fun h => (hT.a k h).1 hk]
 obtain ⟨E2', hy', L2⟩ := step_loc (st' := st) hy (fun k hk w => by rw [hk1 k (by simp [lookT, hk])])
  (fun _ _ => ⟨sameT_all fun k hk => hk1 k (by simp [lookT, hk]), fun r hr => by rw [pH], by rw [pH], fun s t hs => by rw [po]⟩)
 have hH : E2'.H = E2.H := locE_H L2 pH.symm
 have ht2 : ∀ k ∈ lookT x, (st.put y.dst E2').t k = deadT E2'.dead (st.t k) := by
  intro k hk
  have : y.dst ≠ some k := fun h => hT.b k h hk
  simp [St.put, this]
 refine ⟨E2', val _ v, hy', hgo _ (fun k hk w => by rw [ht2 k (by simp [lookT, hk]), gB_dead]) (fun k hk => ?_), ?_⟩
 ·rw [ht2 k (by simp [lookT, hk]), L2.dead]
  exact deadT_live (liveL_in (List.mem_cons_of_mem _ (htm k hk)) hl)
 ·obtain ⟨qH, qo, qt⟩ := put_val_eq (st.put y.dst E2') x.dst v
  refine st_ext ?_ (by rw [qH]; exact hH) (by rw [qo]; exact (orgPut_congr po L2.nr.symm L2.norg.symm L2.dead.symm).symm)
  funext k
  rw [qt]
  by_cases h1 : x.dst = some k
  ·have h2 : y.dst ≠ some k := (hT.a k h1).2
   rw [if_pos h1]
   show v = if y.dst = some k then E2.v else deadT E2.dead ((st.put x.dst (val st v)).t k)
   rw [if_neg h2, pt, if_pos h1]
   exact (deadT_live (liveL_in List.mem_cons_self hl)).symm
  ·rw [if_neg h1]
   show (if y.dst = some k then E2'.v else deadT E2'.dead (st.t k)) = if y.dst = some k then E2.v else deadT E2.dead ((st.put x.dst (val st v)).t k)
   rw [pt, if_neg h1, L2.v, L2.dead]
theorem step_swapB {x y : TOper} {f g : Foot} {E2 : Eff} {us : List TV} (hx : StepF P st x E f) (hy : StepF P (st.put x.dst E) y E2 g) (hT : IndT x y) (hv : g.vo = some us) (h2 : us.length = 2) (hn : g.nj = true) (hl : liveL f.dd us = true) :
  ∃ E2' E', StepF P st y E2' g ∧ StepF P (st.put y.dst E2') x E' f ∧ (st.put y.dst E2').put x.dst E' = (st.put x.dst E).put y.dst E2 := by
 obtain ⟨hf, v, rfl, rfl, htm, hgo⟩ := step_vo hy hv h2
 rw [step_dd hx] at hl
 have ht1 : ∀ k ∈ lookT y, (st.put x.dst E).t k = deadT E.dead (st.t k) := by
  intro k hk
  have : x.dst ≠ some k := fun h => (hT.a k h).1 hk
  simp [St.put, this]
 have hy' := hgo st (fun k hk w => by rw [ht1 k (by simp [lookT, hk]), gB_dead]) (fun k hk => by
  have h1 := ht1 k (by simp [lookT, hk])
  rw [h1]; symm
  refine deadT_nj ?_
  rw [← h1]
  rw [hf] at hn
  exact njL_in (htm k hk) hn)
 obtain ⟨pH, po, pt⟩ := put_val_eq st y.dst v
 have hk1 : ∀ k ∈ lookT x, (st.put y.dst (val st v)).t k = st.t k := fun k hk => by
  rw [pt, if_neg fun h => hT.b k h hk]
 obtain ⟨E', hx', L1⟩ := step_loc (st' := st.put y.dst (val st v)) hx (fun k hk w => by rw [hk1 k (by simp [lookT, hk])])
  (fun _ _ => ⟨sameT_all fun k hk => hk1 k (by simp [lookT, hk]), fun r hr => by rw [pH], by rw [pH], fun s t hs => by rw [po]⟩)
 refine ⟨_, E', hy', hx', ?_⟩
 obtain ⟨qH, qo, qt⟩ := put_val_eq (st.put x.dst E) y.dst v
 refine st_ext ?_ (by rw [qH]; exact locE_H L1 pH) (by rw [qo]; exact orgPut_congr po L1.nr L1.norg L1.dead)
 funext k
 rw [qt]
 show (if x.dst = some k then E'.v else deadT E'.dead ((st.put y.dst (val st v)).t k)) = if y.dst = some k then v else (if x.dst = some k then E.v else deadT E.dead (st.t k))
 rw [pt, L1.v, L1.dead]
 by_cases h1 : x.dst = some k
 ·have h2 : y.dst ≠ some k := (hT.a k h1).2
  simp [h1, h2]
 ·by_cases h2 : y.dst = some k
  ·simp only [h1, h2, if_false, if_true]
   exact deadT_live (liveL_in List.mem_cons_self hl)
  ·simp [h1, h2]
theorem step_rd {o : TOper} {f : Foot} {a : TV} (h : StepF P st o E f) (hv : f.vo = some [a]) (hna : isAA a = false) :
  f = footOf st o E ∧ ∃ v, E = val st v ∧ (∀ d, liveT d a = true → liveT d v = true ∧ ∀ k ∈ opTm o.op, liveT d (st.t k) = true) ∧
   ∀ (st' : St) (d : Option (Path → Bool)), liveT d a = true → (∀ k ∈ guardTm o.guard, ∀ w, gB w (st'.t k) = gB w (st.t k)) → (∀ k ∈ opTm o.op, st'.t k = st.t k) →
    (∀ q, liveB d q = true → (shapeAt st.H q).isSome = true → shapeAt st'.H q = shapeAt st.H q ∧ rlAt st'.H q = rlAt st.H q) → StepF P st' o (val st' v) f := by
 have hrow : ∀ (H : Hp) (p : Path) (i : Nat) (cs : List TV), rowAt H p i = some cs → (shapeAt H p).isSome = true := by
  intro H p i cs hr
  simp only [rowAt, Option.bind_eq_some_iff] at hr
  obtain ⟨es, ⟨u, h1, h2⟩, _⟩ := hr
  simp only [shapeAt, h1, Option.bind_some]
  unfold rows at h2
  split at h2 <;> first | rfl | cases h2
 have hlen : ∀ (H H' : Hp) (p : Path) (i : Nat) (cs : List TV), rowAt H p i = some cs → rlAt H' p = rlAt H p → ∃ cs', rowAt H' p i = some cs' ∧ cs'.length = cs.length := by
  intro H H' p i cs hr he
  have h1 := row_rl H p i
  have h2 := row_rl H' p i
  rw [he, ← h1, hr] at h2
  simp only [Option.map_some, Option.map_eq_some_iff] at h2
  obtain ⟨cs', h3, h4⟩ := h2
  exact ⟨cs', h3, h4⟩
 have key : ∀ b, ((b = true → opW P st o.root o.op (· = E) ∧ f = footOf st o E) ∧ (b = false → E = val st (.tu []) ∧ f = foot0 o)) →
   b = true ∧ f = footOf st o E ∧ ∃ v, E = val st v ∧ (∀ d, liveT d a = true → liveT d v = true ∧ ∀ k ∈ opTm o.op, liveT d (st.t k) = true) ∧
   ∀ (st' : St) (d : Option (Path → Bool)), liveT d a = true → (∀ k ∈ opTm o.op, st'.t k = st.t k) →
    (∀ q, liveB d q = true → (shapeAt st.H q).isSome = true → shapeAt st'.H q = shapeAt st.H q ∧ rlAt st'.H q = rlAt st.H q) →
    (b = true → opW P st' o.root o.op (· = val st' v) ∧ f = footOf st' o (val st' v)) ∧ (b = false → val st' v = val st' (.tu []) ∧ f = foot0 o) := by
  intro b hb
  cases b with
  | false => obtain ⟨_, rfl⟩ := hb.2 rfl; cases hv
  | true =>
   obtain ⟨h1, rfl⟩ := hb.1 rfl
   refine ⟨rfl, rfl, ?_⟩
   have hv' : voOf st E.v o.op = some [a] := hv
   have ht : ∀ (x : TOpd) d, liveT d (x.ev st) = true → ∀ k ∈ x.tm, liveT d (st.t k) = true := fun x d hl k hk => by
    cases x with
    | t n => simp only [TOpd.tm, List.mem_singleton] at hk; subst hk; exact hl
    | c v => simp [TOpd.tm] at hk
   cases hop : o.op with
   | faddr off n x =>
    rw [hop] at hv' h1
    simp only [voOf, Option.some.injEq, List.cons.injEq, and_true] at hv'
    subst hv'
    obtain ⟨v, rfl⟩ := opW_pure rfl h1
    refine ⟨v, rfl, fun d hl => ?_, fun st' d hl hk hq => ⟨fun _ => ?_, fun h => by cases h⟩⟩
    ·simp only [liveT, liveL, Bool.and_eq_true, Bool.and_true] at hl
     exact ⟨hl.1, fun k hk => ht x d hl.2 k (by simpa [opTm] using hk)⟩
    ·have e1 : x.ev st' = x.ev st := ev_loc (fun k h => hk k (by simpa [opTm] using h))
     simp only [liveT, liveL, Bool.and_eq_true, Bool.and_true] at hl
     refine ⟨?_, by simp only [footOf, hop, opT, voOf, e1]; rfl⟩
     simp only [opW, e1] at h1 ⊢
     split at h1
     ·rename_i p i f' hx
      rw [hx] at hl
      simp only [liveT] at hl
      try simp only
      split at h1
      ·rename_i cs hr
       obtain ⟨cs', h3, h4⟩ := hlen _ st'.H _ _ _ hr (hq p hl.2 (hrow _ _ _ _ hr)).2
       rw [h3]
       try simp only
       refine ⟨by rw [h4]; exact h1.1, ?_⟩
       have := congrArg Eff.v h1.2; simp only [val] at this ⊢; simp [this]
      ·exact h1.elim
     ·rename_i cs hx
      try simp only
      refine ⟨h1.1, ?_⟩
      have := congrArg Eff.v h1.2; simp only [val] at this ⊢; simp [this]
     ·exact h1.elim
   | iaddr z x ix =>
    rw [hop] at hv' h1
    simp only [voOf, Option.some.injEq, List.cons.injEq, and_true] at hv'
    subst hv'
    obtain ⟨v, rfl⟩ := opW_pure rfl h1
    refine ⟨v, rfl, fun d hl => ?_, fun st' d hl hk hq => ⟨fun _ => ?_, fun h => by cases h⟩⟩
    ·simp only [liveT, liveL, Bool.and_eq_true, Bool.and_true] at hl
     refine ⟨hl.1, fun k hk => ?_⟩
     simp only [opTm, List.mem_append] at hk
     rcases hk with hk | hk
     ·exact ht x d hl.2.1 k hk
     ·exact ht ix d hl.2.2 k hk
    ·have e1 : x.ev st' = x.ev st := ev_loc (fun k h => hk k (by simp [opTm, h]))
     have e2 : ix.ev st' = ix.ev st := ev_loc (fun k h => hk k (by simp [opTm, h]))
     simp only [liveT, liveL, Bool.and_eq_true, Bool.and_true] at hl
     refine ⟨?_, by simp only [footOf, hop, opT, voOf, e1, e2]; rfl⟩
     simp only [opW, e1, e2] at h1 ⊢
     split at h1
     ·rename_i z' es kk n hx hi
      try simp only
      split at h1
      ·rename_i e he
       try simp only [he]
       refine ⟨h1.1, ?_⟩
       have := congrArg Eff.v h1.2; simp only [val] at this ⊢; simp [this]
      ·exact h1.elim
     ·rename_i p off len kk n hx hi
      rw [hx] at hl
      simp only [liveT] at hl
      try simp only
      obtain ⟨a1, a2, a3, a4⟩ := h1
      have hs : (shapeAt st.H p).isSome = true := by
       cases hh : shapeAt st.H p with
       | none => rw [hh] at a3; cases a3
       | some s => rfl
      refine ⟨a1, a2, by rw [(hq p hl.2.1 hs).1]; exact a3, ?_⟩
      have := congrArg Eff.v a4; simp only [val] at this ⊢; simp [this]
     ·exact h1.elim
   | load agg n x =>
    rw [hop] at hv' h1
    cases agg with
    | true =>
     simp only [voOf] at hv'
     unfold voA at hv'
     split at hv'
     ·split at hv'
      ·simp only [Option.some.injEq, List.cons.injEq, and_true] at hv'
       subst hv'; cases hna
      ·cases hv'
     ·cases hv'
    | false =>
     simp only [voOf] at hv'
     obtain ⟨v, rfl⟩ := opW_pure rfl h1
     have hvl : (∃ p off len, v = .rf p off len) ∨ ∃ p i f, v = .pt p i f := by
      unfold voL at hv'
      simp only [val] at hv'
      split at hv'
      ·exact .inl ⟨_, _, _, rfl⟩
      ·exact .inr ⟨_, _, _, rfl⟩
      ·cases hv'
     have ha : a = .ag [v, x.ev st] := by
      rcases hvl with ⟨p, off, len, rfl⟩ | ⟨p, i, f, rfl⟩ <;> simp only [val, voL, Option.some.injEq, List.cons.injEq, and_true] at hv' <;> exact hv'.symm
     subst ha
     refine ⟨v, rfl, fun d hl => ?_, fun st' d hl hk hq => ⟨fun _ => ?_, fun h => by cases h⟩⟩
     ·simp only [liveT, liveL, Bool.and_eq_true, Bool.and_true] at hl
      exact ⟨hl.1, fun k hk => ht x d hl.2 k (by simpa [opTm] using hk)⟩
     ·have e1 : x.ev st' = x.ev st := ev_loc (fun k h => hk k (by simpa [opTm] using h))
      simp only [liveT, liveL, Bool.and_eq_true, Bool.and_true] at hl
      refine ⟨?_, by simp only [footOf, hop, opT, voOf, e1]; rfl⟩
      simp only [opW, e1] at h1 ⊢
      split at h1
      ·rename_i p i f' hx
       rw [hx] at hl
       try simp only
       split at h1
       ·rename_i cs hr
        simp only [Bool.false_eq_true, if_false] at h1 ⊢
        obtain ⟨a1, a2, a3⟩ := h1
        have hl2 := hl.2
        simp only [liveT] at hl2
        obtain ⟨cs', h3, h4⟩ := hlen _ st'.H _ _ _ hr (hq p hl2 (hrow _ _ _ _ hr)).2
        rw [h3]
        try simp only
        refine ⟨by rw [h4]; exact a1, a2, ?_⟩
        subst a2
        obtain ⟨c, hc⟩ : ∃ c, cs[f']? = some c := ⟨cs[f'], List.getElem?_eq_getElem (by omega)⟩
        obtain ⟨c', hc'⟩ : ∃ c', cs'[f']? = some c' := ⟨cs'[f'], List.getElem?_eq_getElem (by omega)⟩
        have t1 : (cs.drop f').take 1 = [c] := by rw [List.take_one, List.head?_drop, hc]; rfl
        have t2 : (cs'.drop f').take 1 = [c'] := by rw [List.take_one, List.head?_drop, hc']; rfl
        rw [t1] at a3
        rw [t2]
        simp only [refsFrom, List.headD_cons] at a3 ⊢
        have a4 : toRef (p ++ [(i, f')]) c = v := by have := congrArg Eff.v a3; simpa [val] using this
        have c1 := row_cell hr hc
        have c2 := row_cell h3 hc'
        have fin : toRef (p ++ [(i, f')]) c' = v := by
         have hq1 := hq (p ++ [(i, f')])
         simp only [shapeAt, c1, c2, Option.bind_some] at hq1
         have hl1 := hl.1
         rw [← a4] at hvl hl1 ⊢
         cases c with
         | sl own z es =>
          cases own with
          | true =>
           simp only [toRef, liveT] at hl1
           have := (hq1 hl1 rfl).1
           cases c' with
           | sl own' z' es' =>
            cases own' with
            | true =>
             simp only [shape, Option.some.injEq, Prod.mk.injEq, true_and] at this
             simp only [toRef, this.2]
            | false => cases this
           | po own' cs => cases own' <;> cases this
           | _ => cases this
          | false => rcases hvl with ⟨_, _, _, h⟩ | ⟨_, _, _, h⟩ <;> cases h
         | po own cs0 =>
          cases own with
          | true =>
           simp only [toRef, liveT] at hl1
           have := (hq1 hl1 rfl).1
           cases c' with
           | sl own' z' es' => cases own' <;> cases this
           | po own' cs =>
            cases own' with
            | true => rfl
            | false => cases this
           | _ => cases this
          | false => rcases hvl with ⟨_, _, _, h⟩ | ⟨_, _, _, h⟩ <;> cases h
         | fn g cs0 => rcases hvl with ⟨_, _, _, h⟩ | ⟨_, _, _, h⟩ <;> (simp only [toRef] at h; split at h <;> cases h)
         | _ => rcases hvl with ⟨_, _, _, h⟩ | ⟨_, _, _, h⟩ <;> cases h
        rw [fin]
       ·exact h1.elim
      ·rename_i cs hx
       simp only [Bool.false_eq_true, if_false] at h1 ⊢
       refine ⟨h1.1, h1.2.1, ?_⟩
       have := congrArg Eff.v h1.2.2; simp only [val] at this ⊢; rw [this]
      ·exact h1.elim
   | mv x => rw [hop] at hv'; simp [voOf] at hv'
   | nilck x => rw [hop] at hv'; simp [voOf] at hv'
   | app z b s x => rw [hop] at hv'; simp [voOf] at hv'
   | call g as => rw [hop] at hv'; simp [voOf] at hv'
   | _ => rw [hop] at hv'; cases hv'
 unfold StepF at h ⊢
 cases hgd : o.guard with
 | none =>
  rw [hgd] at h
  obtain ⟨_, k1, v, k2, k3, k4⟩ := key true h
  exact ⟨k1, v, k2, k3, fun st' d hl _ ht hq => by simpa [wantW] using k4 st' d hl ht hq⟩
 | some tw =>
  obtain ⟨t, w⟩ := tw
  rw [hgd] at h
  simp only [wantW] at h
  split at h
  case h_2 => exact h.elim
  rename_i x hx
  obtain ⟨k0, k1, v, k2, k3, k4⟩ := key _ h
  refine ⟨k1, v, k2, k3, fun st' d hl hg ht hq => ?_⟩
  simp only [wantW]
  rw [hg t (by simp [guardTm]) w, hx]
  exact k4 st' d hl ht hq
theorem app_foot {y : TOper} {g : Foot} {E2 : Eff} (hy : StepF P st y E2 g) (hv : g.vo = some []) :
  ∀ q, liveB E2.dead q = true → (shapeAt st.H q).isSome = true → shapeAt E2.H q = shapeAt st.H q ∧ rlAt E2.H q = rlAt st.H q := by
 have key : ∀ b, ((b = true → opW P st y.root y.op (· = E2) ∧ g = footOf st y E2) ∧ (b = false → E2 = val st (.tu []) ∧ g = foot0 y)) →
   ∀ q, liveB E2.dead q = true → (shapeAt st.H q).isSome = true → shapeAt E2.H q = shapeAt st.H q ∧ rlAt E2.H q = rlAt st.H q := by
  intro b hb
  cases b with
  | false => obtain ⟨_, rfl⟩ := hb.2 rfl; cases hv
  | true =>
   obtain ⟨h1, rfl⟩ := hb.1 rfl
   have hv' : voOf st E2.v y.op = some [] := hv
   cases hop : y.op with
   | app z b s x => rw [hop] at h1; exact app_soft h1
   | mv x => rw [hop] at hv'; simp [voOf] at hv'
   | call g as => rw [hop] at hv'; simp [voOf] at hv'
   | nilck x => rw [hop] at hv'; simp [voOf] at hv'
   | faddr off n x => rw [hop] at hv'; simp [voOf] at hv'
   | iaddr z x ix => rw [hop] at hv'; simp [voOf] at hv'
   | load agg n x =>
    rw [hop] at hv'
    cases agg with
    | true =>
     simp only [voOf] at hv'
     unfold voA at hv'
     split at hv'
     ·split at hv' <;> simp at hv'
     ·cases hv'
    | false =>
     simp only [voOf] at hv'
     unfold voL at hv'
     split at hv' <;> simp at hv'
   | _ => rw [hop] at hv'; cases hv'
 unfold StepF at hy
 cases hgd : y.guard with
 | none => rw [hgd] at hy; exact key true hy
 | some tw =>
  obtain ⟨t, w⟩ := tw
  rw [hgd] at hy
  simp only [wantW] at hy
  split at hy
  case h_2 => exact hy.elim
  exact key _ hy
theorem toRef_sh {q : Path} {c : TV} (h : isRefT (toRef q c) = true) : (shape c).isSome = true ∧ (∀ d, liveT d (toRef q c) = liveB d q) ∧ ∀ c', shape c' = shape c → toRef q c' = toRef q c := by
 cases c with
 | sl own z es =>
  cases own with
  | false => cases h
  | true =>
   refine ⟨rfl, fun d => rfl, fun c' hc => ?_⟩
   cases c' with
   | sl own' z' es' =>
    cases own' with
    | true => simp only [shape, Option.some.injEq, Prod.mk.injEq, true_and] at hc; simp only [toRef, hc.2]
    | false => cases hc
   | po own' cs => cases own' <;> cases hc
   | _ => cases hc
 | po own cs =>
  cases own with
  | false => cases h
  | true =>
   refine ⟨rfl, fun d => rfl, fun c' hc => ?_⟩
   cases c' with
   | sl own' z' es' => cases own' <;> cases hc
   | po own' cs =>
    cases own' with
    | true => rfl
    | false => cases hc
   | _ => cases hc
 | fn g cs => simp only [toRef] at h; split at h <;> cases h
 | _ => cases h
theorem refs_get {p : Path} {i : Nat} : ∀ (f : Nat) (cs : List TV) (k : Nat), (refsFrom p i f cs)[k]? = (cs[k]?).map (toRef (p ++ [(i, f + k)]))
 | f, [], k => by simp [refsFrom]
 | f, c :: cs, 0 => by simp [refsFrom]
 | f, c :: cs, k + 1 => by
  simp only [refsFrom, List.getElem?_cons_succ]
  rw [refs_get (f + 1) cs k]
  rw [show f + 1 + k = f + (k + 1) by omega]
theorem liveL_at {d : Option (Path → Bool)} : ∀ {us : List TV}, liveL d us = true → ∀ (k : Nat) (u : TV), us[k]? = some u → liveT d u = true
 | [], _, k, u, h => by simp at h
 | v :: us, hl, 0, u, h => by
  simp only [liveL, Bool.and_eq_true] at hl
  simp only [List.getElem?_cons_zero, Option.some.injEq] at h
  subst h; exact hl.1
 | v :: us, hl, k + 1, u, h => by
  simp only [liveL, Bool.and_eq_true] at hl
  exact liveL_at hl.2 k u (by simpa using h)
theorem step_rc {o : TOper} {f : Foot} {v0 x0 : TV} (h : StepF P st o E f) (hv : f.vo = some [.ag [v0, x0]]) :
  f = footOf st o E ∧ ∃ v, E = val st v ∧ (∀ d, liveT d (.ag [v0, x0]) = true → liveT d v = true ∧ ∀ k ∈ opTm o.op, liveT d (st.t k) = true) ∧
   ∀ (st' : St) (d : Option (Path → Bool)), liveT d (.ag [v0, x0]) = true → (∀ k ∈ guardTm o.guard, ∀ w, gB w (st'.t k) = gB w (st.t k)) → (∀ k ∈ opTm o.op, st'.t k = st.t k) →
    (∀ p s, (shapeAt st.H (p ++ [s])).isSome = true → liveB d (p ++ [s]) = true → rlAt st'.H p = rlAt st.H p ∧ shapeAt st'.H (p ++ [s]) = shapeAt st.H (p ++ [s])) → StepF P st' o (val st' v) f := by
 have hlen : ∀ (H H' : Hp) (p : Path) (i : Nat) (cs : List TV), rowAt H p i = some cs → rlAt H' p = rlAt H p → ∃ cs', rowAt H' p i = some cs' ∧ cs'.length = cs.length := by
  intro H H' p i cs hr he
  have h1 := row_rl H p i
  have h2 := row_rl H' p i
  rw [he, ← h1, hr] at h2
  simp only [Option.map_some, Option.map_eq_some_iff] at h2
  obtain ⟨cs', h3, h4⟩ := h2
  exact ⟨cs', h3, h4⟩
 have row : ∀ (st' : St) (d : Option (Path → Bool)) (p : Path) (i f n : Nat) (cs : List TV), rowAt st.H p i = some cs → (refsFrom p i f ((cs.drop f).take n)).all isRefT = true → refsFrom p i f ((cs.drop f).take n) ≠ [] → liveL d (refsFrom p i f ((cs.drop f).take n)) = true →
   (∀ p s, (shapeAt st.H (p ++ [s])).isSome = true → liveB d (p ++ [s]) = true → rlAt st'.H p = rlAt st.H p ∧ shapeAt st'.H (p ++ [s]) = shapeAt st.H (p ++ [s])) →
   ∃ cs', rowAt st'.H p i = some cs' ∧ cs'.length = cs.length ∧ refsFrom p i f ((cs'.drop f).take n) = refsFrom p i f ((cs.drop f).take n) := by
  intro st' d p i f n cs hr hall hne hl hq
  have one : ∀ (k : Nat) (c : TV), ((cs.drop f).take n)[k]? = some c → (shape c).isSome = true ∧ (∀ c', shape c' = shape c → toRef (p ++ [(i, f + k)]) c' = toRef (p ++ [(i, f + k)]) c) ∧ rlAt st'.H p = rlAt st.H p ∧ shapeAt st'.H (p ++ [(i, f + k)]) = shape c := by
   intro k c hc
   have hg : (refsFrom p i f ((cs.drop f).take n))[k]? = some (toRef (p ++ [(i, f + k)]) c) := by rw [refs_get, hc]; rfl
   have h1 := List.all_eq_true.1 hall _ (List.mem_of_getElem? hg)
   obtain ⟨a1, a2, a3⟩ := toRef_sh h1
   have h2 := liveL_at hl k _ hg
   rw [a2] at h2
   have hcs : cs[f + k]? = some c := by
    rw [List.getElem?_take] at hc
    split at hc
    ·rw [List.getElem?_drop] at hc; exact hc
    ·cases hc
   have h3 := row_cell hr hcs
   have h4 := hq p (i, f + k) (by simp only [shapeAt, h3, Option.bind_some]; exact a1) h2
   refine ⟨a1, a3, h4.1, ?_⟩
   rw [h4.2]
   simp only [shapeAt, h3, Option.bind_some]
  obtain ⟨c0, hc0⟩ : ∃ c, ((cs.drop f).take n)[0]? = some c := by
   cases hh : (cs.drop f).take n with
   | nil => rw [hh] at hne; exact absurd rfl hne
   | cons c r => exact ⟨c, rfl⟩
  obtain ⟨cs', h3, h4⟩ := hlen _ st'.H _ _ _ hr (one 0 c0 hc0).2.2.1
  refine ⟨cs', h3, h4, ?_⟩
  apply List.ext_getElem?
  intro k
  rw [refs_get, refs_get]
  cases hc : ((cs.drop f).take n)[k]? with
  | none =>
   have : ((cs'.drop f).take n)[k]? = none := by
    rw [List.getElem?_eq_none_iff] at hc ⊢
    simp only [List.length_take, List.length_drop] at hc ⊢
    omega
   rw [this]
  | some c =>
   obtain ⟨b1, b2, b3, b4⟩ := one k c hc
   obtain ⟨c', hc'⟩ : ∃ c', ((cs'.drop f).take n)[k]? = some c' := by
    have := (List.getElem?_eq_some_iff.1 hc).1
    simp only [List.length_take, List.length_drop] at this
    exact ⟨_, List.getElem?_eq_getElem (by simp only [List.length_take, List.length_drop]; omega)⟩
   rw [hc']
   have hcs' : cs'[f + k]? = some c' := by
    rw [List.getElem?_take] at hc'
    split at hc'
    ·rw [List.getElem?_drop] at hc'; exact hc'
    ·cases hc'
   have h5 := row_cell h3 hcs'
   simp only [shapeAt, h5, Option.bind_some] at b4
   simp only [Option.map_some, b2 c' b4]
 have key : ∀ b, ((b = true → opW P st o.root o.op (· = E) ∧ f = footOf st o E) ∧ (b = false → E = val st (.tu []) ∧ f = foot0 o)) →
   b = true ∧ f = footOf st o E ∧ ∃ v, E = val st v ∧ (∀ d, liveT d (.ag [v0, x0]) = true → liveT d v = true ∧ ∀ k ∈ opTm o.op, liveT d (st.t k) = true) ∧
   ∀ (st' : St) (d : Option (Path → Bool)), liveT d (.ag [v0, x0]) = true → (∀ k ∈ opTm o.op, st'.t k = st.t k) →
    (∀ p s, (shapeAt st.H (p ++ [s])).isSome = true → liveB d (p ++ [s]) = true → rlAt st'.H p = rlAt st.H p ∧ shapeAt st'.H (p ++ [s]) = shapeAt st.H (p ++ [s])) →
    (b = true → opW P st' o.root o.op (· = val st' v) ∧ f = footOf st' o (val st' v)) ∧ (b = false → val st' v = val st' (.tu []) ∧ f = foot0 o) := by
  intro b hb
  cases b with
  | false => obtain ⟨_, rfl⟩ := hb.2 rfl; cases hv
  | true =>
   obtain ⟨h1, rfl⟩ := hb.1 rfl
   refine ⟨rfl, rfl, ?_⟩
   have hv' : voOf st E.v o.op = some [.ag [v0, x0]] := hv
   have ht : ∀ (x : TOpd) d, liveT d (x.ev st) = true → ∀ k ∈ x.tm, liveT d (st.t k) = true := fun x d hl k hk => by
    cases x with
    | t n => simp only [TOpd.tm, List.mem_singleton] at hk; subst hk; exact hl
    | c v => simp [TOpd.tm] at hk
   cases hop : o.op with
   | load agg n x =>
    rw [hop] at hv' h1
    obtain ⟨v, rfl⟩ := opW_pure rfl h1
    cases agg with
    | true =>
     simp only [voOf, val] at hv'
     unfold voA at hv'
     split at hv'
     case h_2 => cases hv'
     rename_i us
     split at hv'
     case isFalse => cases hv'
     rename_i hus
     simp only [Option.some.injEq, List.cons.injEq, and_true, TV.ag.injEq] at hv'
     obtain ⟨rfl, rfl⟩ := hv'
     simp only [Bool.and_eq_true, Bool.not_eq_true', List.isEmpty_eq_false_iff] at hus
     refine ⟨.ag us, rfl, fun d hl => ?_, fun st' d hl hk hq => ⟨fun _ => ?_, fun h => by cases h⟩⟩
     ·simp only [liveT, liveL, Bool.and_eq_true, Bool.and_true] at hl
      exact ⟨by simpa only [liveT] using hl.1, fun k hk => ht x d hl.2 k (by simpa [opTm] using hk)⟩
     ·have e1 : x.ev st' = x.ev st := ev_loc (fun k h => hk k (by simpa [opTm] using h))
      simp only [liveT, liveL, Bool.and_eq_true, Bool.and_true] at hl
      refine ⟨?_, by simp only [footOf, hop, opT, voOf, e1]; rfl⟩
      simp only [opW, e1] at h1 ⊢
      split at h1
      ·rename_i p i f' hx
       try simp only
       split at h1
       ·rename_i cs hr
        simp only [if_true] at h1 ⊢
        obtain ⟨a1, a3⟩ := h1
        have a4 : refsFrom p i f' ((cs.drop f').take n) = us := by have := congrArg Eff.v a3; simpa [val] using this
        obtain ⟨cs', h3, h4, h5⟩ := row st' d p i f' n cs hr (by rw [a4]; exact hus.1) (by rw [a4]; exact hus.2) (by rw [a4]; exact hl.1) hq
        rw [h3]
        try simp only
        exact ⟨by rw [h4]; exact a1, by rw [h5, a4]⟩
       ·exact h1.elim
      ·rename_i cs hx
       simp only [if_true] at h1 ⊢
       refine ⟨h1.1, ?_⟩
       have := congrArg Eff.v h1.2; simp only [val] at this ⊢; rw [this]
      ·exact h1.elim
    | false =>
     simp only [voOf] at hv'
     have hvl : isRefT v = true := by
      unfold voL at hv'
      simp only [val] at hv'
      split at hv' <;> first | rfl | cases hv'
     have ha : v0 = v ∧ x0 = x.ev st := by
      unfold voL at hv'
      simp only [val] at hv'
      split at hv'
      ·simp only [Option.some.injEq, List.cons.injEq, and_true, TV.ag.injEq] at hv'
       exact ⟨hv'.1.symm, hv'.2.symm⟩
      ·simp only [Option.some.injEq, List.cons.injEq, and_true, TV.ag.injEq] at hv'
       exact ⟨hv'.1.symm, hv'.2.symm⟩
      ·cases hv'
     obtain ⟨rfl, rfl⟩ := ha
     refine ⟨v0, rfl, fun d hl => ?_, fun st' d hl hk hq => ⟨fun _ => ?_, fun h => by cases h⟩⟩
     ·simp only [liveT, liveL, Bool.and_eq_true, Bool.and_true] at hl
      exact ⟨hl.1, fun k hk => ht x d hl.2 k (by simpa [opTm] using hk)⟩
     ·have e1 : x.ev st' = x.ev st := ev_loc (fun k h => hk k (by simpa [opTm] using h))
      simp only [liveT, liveL, Bool.and_eq_true, Bool.and_true] at hl
      refine ⟨?_, by simp only [footOf, hop, opT, voOf, e1]; rfl⟩
      simp only [opW, e1] at h1 ⊢
      split at h1
      ·rename_i p i f' hx
       try simp only
       split at h1
       ·rename_i cs hr
        simp only [Bool.false_eq_true, if_false] at h1 ⊢
        obtain ⟨a1, a2, a3⟩ := h1
        have a4 : (refsFrom p i f' ((cs.drop f').take 1)).headD .junk = v0 := by have := congrArg Eff.v a3; simpa [val] using this
        have a5 : refsFrom p i f' ((cs.drop f').take 1) = [v0] := by
         obtain ⟨c, hc⟩ : ∃ c, cs[f']? = some c := ⟨cs[f'], List.getElem?_eq_getElem (by omega)⟩
         have t1 : (cs.drop f').take 1 = [c] := by rw [List.take_one, List.head?_drop, hc]; rfl
         rw [t1] at a4 ⊢
         simp only [refsFrom, List.headD_cons] at a4 ⊢
         rw [a4]
        obtain ⟨cs', h3, h4, h5⟩ := row st' d p i f' 1 cs hr (by rw [a5]; simp only [List.all_cons, List.all_nil, Bool.and_true]; exact hvl) (by rw [a5]; simp) (by rw [a5]; simp only [liveL, hl.1, Bool.and_true]) hq
        rw [h3]
        try simp only
        refine ⟨by rw [h4]; exact a1, a2, ?_⟩
        rw [h5, a5]; rfl
       ·exact h1.elim
      ·rename_i cs hx
       simp only [Bool.false_eq_true, if_false] at h1 ⊢
       refine ⟨h1.1, h1.2.1, ?_⟩
       have := congrArg Eff.v h1.2.2; simp only [val] at this ⊢; rw [this]
      ·exact h1.elim
   | mv x => rw [hop] at hv'; simp [voOf] at hv'
   | nilck x => rw [hop] at hv'; simp [voOf] at hv'
   | faddr off n x => rw [hop] at hv'; simp [voOf] at hv'
   | iaddr z x ix => rw [hop] at hv'; simp [voOf] at hv'
   | app z b s x => rw [hop] at hv'; simp [voOf] at hv'
   | call g as => rw [hop] at hv'; simp [voOf] at hv'
   | _ => rw [hop] at hv'; cases hv'
 unfold StepF at h ⊢
 cases hgd : o.guard with
 | none =>
  rw [hgd] at h
  obtain ⟨_, k1, v, k2, k3, k4⟩ := key true h
  exact ⟨k1, v, k2, k3, fun st' d hl _ ht hq => by simpa [wantW] using k4 st' d hl ht hq⟩
 | some tw =>
  obtain ⟨t, w⟩ := tw
  rw [hgd] at h
  simp only [wantW] at h
  split at h
  case h_2 => exact h.elim
  rename_i x hx
  obtain ⟨k0, k1, v, k2, k3, k4⟩ := key _ h
  refine ⟨k1, v, k2, k3, fun st' d hl hg ht hq => ?_⟩
  simp only [wantW]
  rw [hg t (by simp [guardTm]) w, hx]
  exact k4 st' d hl ht hq
theorem call_foot {y : TOper} {g : Foot} {E2 : Eff} {us : List TV} (hy : StepF P st y E2 g) (hv : g.vo = some us) (h3 : us.length = 3) :
  ∀ p s, (shapeAt st.H (p ++ [s])).isSome = true → liveB E2.dead (p ++ [s]) = true → rlAt E2.H p = rlAt st.H p ∧ shapeAt E2.H (p ++ [s]) = shapeAt st.H (p ++ [s]) := by
 have key : ∀ b, ((b = true → opW P st y.root y.op (· = E2) ∧ g = footOf st y E2) ∧ (b = false → E2 = val st (.tu []) ∧ g = foot0 y)) →
   ∀ p s, (shapeAt st.H (p ++ [s])).isSome = true → liveB E2.dead (p ++ [s]) = true → rlAt E2.H p = rlAt st.H p ∧ shapeAt E2.H (p ++ [s]) = shapeAt st.H (p ++ [s]) := by
  intro b hb
  cases b with
  | false => obtain ⟨_, rfl⟩ := hb.2 rfl; cases hv
  | true =>
   obtain ⟨h1, rfl⟩ := hb.1 rfl
   have hv' : voOf st E2.v y.op = some us := hv
   cases hop : y.op with
   | call g as => rw [hop] at h1; exact call_soft h1
   | mv x => rw [hop] at hv'; simp only [voOf, Option.some.injEq] at hv'; subst hv'; cases h3
   | nilck x => rw [hop] at hv'; simp only [voOf, Option.some.injEq] at hv'; subst hv'; cases h3
   | faddr off n x => rw [hop] at hv'; simp only [voOf, Option.some.injEq] at hv'; subst hv'; cases h3
   | iaddr z x ix => rw [hop] at hv'; simp only [voOf, Option.some.injEq] at hv'; subst hv'; cases h3
   | app z b s x => rw [hop] at hv'; simp only [voOf, Option.some.injEq] at hv'; subst hv'; cases h3
   | load agg n x =>
    rw [hop] at hv'
    cases agg with
    | true =>
     simp only [voOf] at hv'
     unfold voA at hv'
     split at hv'
     ·split at hv'
      ·simp only [Option.some.injEq] at hv'; subst hv'; cases h3
      ·cases hv'
     ·cases hv'
    | false =>
     simp only [voOf] at hv'
     unfold voL at hv'
     split at hv'
     ·simp only [Option.some.injEq] at hv'; subst hv'; cases h3
     ·simp only [Option.some.injEq] at hv'; subst hv'; cases h3
     ·cases hv'
   | _ => rw [hop] at hv'; cases hv'
 unfold StepF at hy
 cases hgd : y.guard with
 | none => rw [hgd] at hy; exact key true hy
 | some tw =>
  obtain ⟨t, w⟩ := tw
  rw [hgd] at hy
  simp only [wantW] at hy
  split at hy
  case h_2 => exact hy.elim
  exact key _ hy
theorem step_swapR {x y : TOper} {f g : Foot} {E2 : Eff} {a : TV} (hx : StepF P st x E f) (hy : StepF P (st.put x.dst E) y E2 g) (hT : IndT x y) (hv : f.vo = some [a]) (hw : g.vo = some []) (hna : isAA a = false) (hl : liveT g.dd a = true) :
  ∃ E2' E', StepF P st y E2' g ∧ StepF P (st.put y.dst E2') x E' f ∧ (st.put y.dst E2').put x.dst E' = (st.put x.dst E).put y.dst E2 := by
 obtain ⟨hf, v, rfl, hlv, hgo⟩ := step_rd hx hv hna
 obtain ⟨pH, po, pt⟩ := put_val_eq st x.dst v
 rw [step_dd hy] at hl
 have hk1 : ∀ k ∈ lookT y, st.t k = (st.put x.dst (val st v)).t k := fun k hk => by
  rw [pt, if_neg fun h => (hT.a k h).1 hk]
 obtain ⟨E2', hy', L2⟩ := step_loc (st' := st) hy (fun k hk w => by rw [hk1 k (by simp [lookT, hk])])
  (fun _ _ => ⟨sameT_all fun k hk => hk1 k (by simp [lookT, hk]), fun r hr => by rw [pH], by rw [pH], fun s t hs => by rw [po]⟩)
 have hH : E2'.H = E2.H := locE_H L2 pH.symm
 have ht2 : ∀ k ∈ lookT x, (st.put y.dst E2').t k = deadT E2'.dead (st.t k) := by
  intro k hk
  have : y.dst ≠ some k := fun h => hT.b k h hk
  simp [St.put, this]
 obtain ⟨hl1, hl2⟩ := hlv _ hl
 refine ⟨E2', val _ v, hy', hgo _ _ hl (fun k hk w => by rw [ht2 k (by simp [lookT, hk]), gB_dead]) (fun k hk => ?_) (fun q hq hs => ?_), ?_⟩
 ·rw [ht2 k (by simp [lookT, hk]), L2.dead]
  exact deadT_live (hl2 k hk)
 ·have e : (st.put y.dst E2').H = E2'.H := rfl
  rw [e]
  exact app_foot hy' hw q (by rw [L2.dead]; exact hq) hs
 ·obtain ⟨qH, qo, qt⟩ := put_val_eq (st.put y.dst E2') x.dst v
  refine st_ext ?_ (by rw [qH]; exact hH) (by rw [qo]; exact (orgPut_congr po L2.nr.symm L2.norg.symm L2.dead.symm).symm)
  funext k
  rw [qt]
  by_cases h1 : x.dst = some k
  ·have h2 : y.dst ≠ some k := (hT.a k h1).2
   rw [if_pos h1]
   show v = if y.dst = some k then E2.v else deadT E2.dead ((st.put x.dst (val st v)).t k)
   rw [if_neg h2, pt, if_pos h1]
   exact (deadT_live hl1).symm
  ·rw [if_neg h1]
   show (if y.dst = some k then E2'.v else deadT E2'.dead (st.t k)) = if y.dst = some k then E2.v else deadT E2.dead ((st.put x.dst (val st v)).t k)
   rw [pt, if_neg h1, L2.v, L2.dead]
theorem step_swapC {x y : TOper} {f g : Foot} {E2 : Eff} {v0 x0 : TV} {us : List TV} (hx : StepF P st x E f) (hy : StepF P (st.put x.dst E) y E2 g) (hT : IndT x y) (hv : f.vo = some [.ag [v0, x0]]) (hw : g.vo = some us) (h3 : us.length = 3) (hl : liveT g.dd (.ag [v0, x0]) = true) :
  ∃ E2' E', StepF P st y E2' g ∧ StepF P (st.put y.dst E2') x E' f ∧ (st.put y.dst E2').put x.dst E' = (st.put x.dst E).put y.dst E2 := by
 obtain ⟨hf, v, rfl, hlv, hgo⟩ := step_rc hx hv
 obtain ⟨pH, po, pt⟩ := put_val_eq st x.dst v
 rw [step_dd hy] at hl
 have hk1 : ∀ k ∈ lookT y, st.t k = (st.put x.dst (val st v)).t k := fun k hk => by
  rw [pt, if_neg fun h => (hT.a k h).1 hk]
 obtain ⟨E2', hy', L2⟩ := step_loc (st' := st) hy (fun k hk w => by rw [hk1 k (by simp [lookT, hk])])
  (fun _ _ => ⟨sameT_all fun k hk => hk1 k (by simp [lookT, hk]), fun r hr => by rw [pH], by rw [pH], fun s t hs => by rw [po]⟩)
 have hH : E2'.H = E2.H := locE_H L2 pH.symm
 have ht2 : ∀ k ∈ lookT x, (st.put y.dst E2').t k = deadT E2'.dead (st.t k) := by
  intro k hk
  have : y.dst ≠ some k := fun h => hT.b k h hk
  simp [St.put, this]
 obtain ⟨hl1, hl2⟩ := hlv _ hl
 refine ⟨E2', val _ v, hy', hgo _ _ hl (fun k hk w => by rw [ht2 k (by simp [lookT, hk]), gB_dead]) (fun k hk => ?_) (fun p s hs hq => ?_), ?_⟩
 ·rw [ht2 k (by simp [lookT, hk]), L2.dead]
  exact deadT_live (hl2 k hk)
 ·have e : (st.put y.dst E2').H = E2'.H := rfl
  rw [e]
  exact call_foot hy' hw h3 p s hs (by rw [L2.dead]; exact hq)
 ·obtain ⟨qH, qo, qt⟩ := put_val_eq (st.put y.dst E2') x.dst v
  refine st_ext ?_ (by rw [qH]; exact hH) (by rw [qo]; exact (orgPut_congr po L2.nr.symm L2.norg.symm L2.dead.symm).symm)
  funext k
  rw [qt]
  by_cases h1 : x.dst = some k
  ·have h2 : y.dst ≠ some k := (hT.a k h1).2
   rw [if_pos h1]
   show v = if y.dst = some k then E2.v else deadT E2.dead ((st.put x.dst (val st v)).t k)
   rw [if_neg h2, pt, if_pos h1]
   exact (deadT_live hl1).symm
  ·rw [if_neg h1]
   show (if y.dst = some k then E2'.v else deadT E2'.dead (st.t k)) = if y.dst = some k then E2.v else deadT E2.dead ((st.put x.dst (val st v)).t k)
   rw [pt, if_neg h1, L2.v, L2.dead]
def PairF (f g : Foot) : Prop := IndF f g ∨ (∃ us, f.vo = some us ∧ us.length = 2 ∧ liveL g.dd us = true) ∨ (∃ us, g.vo = some us ∧ us.length = 2 ∧ g.nj = true ∧ liveL f.dd us = true) ∨ (∃ a, f.vo = some [a] ∧ g.vo = some [] ∧ isAA a = false ∧ liveT g.dd a = true) ∨ ∃ v x us, f.vo = some [.ag [v, x]] ∧ g.vo = some us ∧ us.length = 3 ∧ liveT g.dd (.ag [v, x]) = true
theorem vo1_of {d : Option (Path → Bool)} {o : Option (List TV)} (h : vo1 d o = true) : ∃ us, o = some us ∧ us.length = 2 ∧ liveL d us = true := by
 unfold vo1 at h
 split at h
 ·exact ⟨_, rfl, rfl, h⟩
 ·cases h
theorem rdA_of {d : Option (Path → Bool)} {o o' : Option (List TV)} (h : rdA d o o' = true) : (∃ a, o' = some [a] ∧ o = some [] ∧ isAA a = false ∧ liveT d a = true) ∨ ∃ v x us, o' = some [.ag [v, x]] ∧ o = some us ∧ us.length = 3 ∧ liveT d (.ag [v, x]) = true := by
 unfold rdA at h
 split at h
 ·simp only [Bool.and_eq_true, Bool.not_eq_true'] at h
  exact .inl ⟨_, rfl, rfl, h.2, h.1⟩
 ·exact .inr ⟨_, _, _, rfl, rfl, rfl, h⟩
 ·cases h
theorem pairF_of {f g : Foot} (h : pairOk f g = true) : PairF f g := by
 unfold pairOk at h
 cases h1 : pair1 f g with
 | true => exact .inl (indF_of h1)
 | false =>
  rw [h1] at h
  simp only [pair2, Bool.or_eq_true, Bool.and_eq_true] at h
  rcases h with (h | ⟨h, h2⟩) | h
  ·exact .inr (.inl (vo1_of h))
  ·obtain ⟨us, a1, a2, a3⟩ := vo1_of h2
   exact .inr (.inr (.inl ⟨us, a1, a2, h, a3⟩))
  ·exact .inr (.inr (.inr (rdA_of h)))
theorem step_pair {x y : TOper} {f g : Foot} {E2 : Eff} (hx : StepF P st x E f) (hy : StepF P (st.put x.dst E) y E2 g) (hT : IndT x y) (hI : PairF f g) :
  ∃ E2' E', StepF P st y E2' g ∧ StepF P (st.put y.dst E2') x E' f ∧ (st.put y.dst E2').put x.dst E' = (st.put x.dst E).put y.dst E2 := by
 rcases hI with hI | ⟨us, h1, h2, h3⟩ | ⟨us, h1, h2, h3, h4⟩ | ⟨a, h1, h2, h3, h4⟩ | ⟨v, z, us, h1, h2, h3, h4⟩
 ·exact step_swap hx hy hT hI
 ·exact step_swapA hx hy hT h1 h2 h3
 ·exact step_swapB hx hy hT h1 h2 h3 h4
 ·exact step_swapR hx hy hT h1 h2 h3 h4
 ·exact step_swapC hx hy hT h1 h2 h3 h4
theorem run_pull {it : Nat → TOper × Foot} {i : Nat} {post : List Nat} : ∀ (pre : List Nat) (st st' : St), Run P it (pre ++ i :: post) st st' → (∀ j ∈ pre, IndT (it j).1 (it i).1 ∧ ((it j).2.wr = [] ∧ (it i).2.wr = [] ∨ PairF (it j).2 (it i).2)) →
  ∃ E, StepF P st (it i).1 E (it i).2 ∧ Run P it (pre ++ post) (st.put (it i).1.dst E) st'
 | [], st, st', h, _ => h
 | j :: pre, st, st', h, hind => by
  obtain ⟨Ej, hj, h⟩ := h
  obtain ⟨E, hi, h⟩ := run_pull pre _ _ h fun k hk => hind k (List.mem_cons_of_mem _ hk)
  obtain ⟨iT, iF⟩ := hind j (List.mem_cons_self)
  have iF' : PairF (it j).2 (it i).2 := by
   rcases iF with ⟨h1, h2⟩ | iF
   ·exact .inl ⟨fun r hr => (by rw [h1] at hr; cases hr), fun h => absurd h1 h, fun r hr => (by rw [h2] at hr; cases hr)⟩
   ·exact iF
  obtain ⟨E2, E', g1, g2, g3⟩ := step_pair hj hi iT iF'
  refine ⟨E2, g1, E', g2, ?_⟩
  rw [g3]
  exact h
end
end Go.Proofs.YtmedelmfkciblaaT


namespace Go.Proofs.YtmedelmfkciblaaT
set_option linter.unusedVariables false
set_option linter.unusedSimpArgs false
open Go
section
variable {P : Program} {F : Fr} {st st' : St} {root : Nat} {H H' H1 : Hp} {E : Eff} {w : World}
mutual
theorem killT_sub {d e : Path → Bool} (h : ∀ q, d q = true → e q = true) : ∀ u : TV, killT e (killT d u) = killT e u
 | .rf p o l => by
  cases h1 : d p with
  | false => simp [killT, h1]
  | true => simp [killT, h1, h p h1]
 | .pt p i f => by
  cases h1 : d p with
  | false => simp [killT, h1]
  | true => simp [killT, h1, h p h1]
 | .ag cs => by simp only [killT]; rw [killL_sub h cs]
 | .tu cs => by simp only [killT]; rw [killL_sub h cs]
 | .fn g cs => by simp only [killT]; rw [killL_sub h cs]
 | .b _ => rfl
 | .i .. => rfl
 | .f _ => rfl
 | .s _ => rfl
 | .np => rfl
 | .sl .. => rfl
 | .po .. => rfl
 | .junk => rfl
 | .pin _ => rfl
theorem killL_sub {d e : Path → Bool} (h : ∀ q, d q = true → e q = true) : ∀ us : List TV, killL e (killL d us) = killL e us
 | [] => rfl
 | u :: us => by simp only [killL]; rw [killT_sub h u, killL_sub h us]
end
theorem putL_off {p : Path} {i f r : Nat} {us : List TV} (hp : p ≠ []) (hr : r ∉ pr p) : putL p i f us H r = H r := by
 rw [putL_eq p i hp]; exact modH_off hr
theorem putL_at {p : Path} {i f r : Nat} {us : List TV} (hp : p ≠ []) (hr : H' r = H r) : putL p i f us H' r = putL p i f us H r := by
 rw [putL_eq p i hp, putL_eq p i hp]
 cases p with
 | nil => exact absurd rfl hp
 | cons s t => simp only [modH, hr]
theorem rows_putF {i : Nat} : ∀ (us : List TV) (f : Nat) (nd : TV) (cs : List TV), (rows nd).bind (·[i]?) = some cs → f + us.length ≤ cs.length →
  ∃ cs', (rows (putF i f us nd)).bind (·[i]?) = some cs' ∧ cs'.length = cs.length ∧ (∀ j u, us[j]? = some u → cs'[f + j]? = some u) ∧ ∀ k, k < f → cs'[k]? = cs[k]?
 | [], f, nd, cs, h, _ => ⟨cs, h, rfl, fun j u hu => by simp at hu, fun _ _ => rfl⟩
 | u :: us, f, nd, cs, h, hl => by
  simp only [List.length_cons] at hl
  have h1 : (rows (upk (fun _ => u) (i, f) nd)).bind (·[i]?) = some (cs.modify f fun _ => u) := by
   cases nd with
   | sl own z es =>
    cases own with
    | false => simp [rows] at h
    | true =>
     simp only [rows, Option.bind_some] at h
     simp [rows, upk, List.getElem?_modify, h]
   | po own cs0 =>
    cases own with
    | false => simp [rows] at h
    | true =>
     simp only [rows, Option.bind_some] at h
     cases i with
     | zero => simp at h; simp [rows, upk, h]
     | succ i => simp at h
   | _ => simp [rows] at h
  obtain ⟨cs', g1, g2, g3, g4⟩ := rows_putF us (f + 1) _ _ h1 (by simp; omega)
  refine ⟨cs', g1, by simpa using g2, fun j v hv => ?_, fun k hk => ?_⟩
  ·cases j with
   | zero =>
    simp only [List.getElem?_cons_zero, Option.some.injEq] at hv
    rw [Nat.add_zero, g4 f (by omega), List.getElem?_modify]
    have : f < cs.length := by omega
    simp [this, hv]
   | succ j => rw [show f + (j + 1) = f + 1 + j by omega]; exact g3 j v (by simpa using hv)
  ·rw [g4 k (by omega), List.getElem?_modify]
   have : f ≠ k := by omega
   simp [this]
theorem row_putL {p : Path} {i f : Nat} {us cs : List TV} (hr : rowAt H p i = some cs) (hl : f + us.length ≤ cs.length) :
  ∃ cs', rowAt (putL p i f us H) p i = some cs' ∧ cs'.length = cs.length ∧ ∀ j u, us[j]? = some u → cs'[f + j]? = some u := by
 have hp := node_ne hr
 simp only [rowAt, Option.bind_eq_some_iff] at hr
 obtain ⟨es, ⟨nd, h1, h2⟩, h3⟩ := hr
 obtain ⟨cs', g1, g2, g3, _⟩ := rows_putF us f nd cs (by rw [h2]; exact h3) hl
 refine ⟨cs', ?_, g2, g3⟩
 rw [putL_eq p i hp, rowAt, cellAt_modH_self, h1]
 exact g1
theorem under_self (p : Path) (n i f : Nat) : under ((List.range n).map fun j => p ++ [(i, f + j)]) p = false := by
 refine Bool.eq_false_iff.2 fun h => ?_
 simp only [under, List.any_eq_true, List.mem_map] at h
 obtain ⟨q, ⟨j, _, rfl⟩, h⟩ := h
 have := (List.isPrefixOf_iff_prefix.1 h).length_le
 rw [List.length_append, List.length_singleton] at this
 omega
theorem under_root {p q : Path} {n i f : Nat} (hp : p ≠ []) (h : under ((List.range n).map fun j => p ++ [(i, f + j)]) q = true) : ∃ s t, q = s :: t ∧ s.1 ∈ pr p := by
 simp only [under, List.any_eq_true, List.mem_map] at h
 obtain ⟨q', ⟨j, _, rfl⟩, h⟩ := h
 obtain ⟨t, rfl⟩ := List.isPrefixOf_iff_prefix.1 h
 cases p with
 | nil => exact absurd rfl hp
 | cons s r => exact ⟨s, _, rfl, by simp⟩
theorem late_ow {n : Nat} {a y : TOpd} {z : TV} (hE : opW P st root (.store n a y) (· = E)) (hr : ∀ r ∈ E.wr.take 1, r ∉ (rootsL [a.ev st, y.ev st]).drop 1)
  (hpl : (cellsT z).length = n) (hnr : ∀ c ∈ cellsT z, noref c = true) :
  ∃ Ep E' p i f, opW P st root (.store n a (.c z)) (· = Ep) ∧ opW P (st.put none Ep) root (.store n a y) (· = E') ∧ (st.put none Ep).put none E' = st.put none E ∧
   a.ev (st.put none Ep) = a.ev st ∧ y.ev (st.put none Ep) = y.ev st ∧ E'.wr = E.wr ∧ E'.dead = E.dead ∧ E'.v = E.v ∧ E.v = .junk ∧ Ep.v = .junk ∧ a.ev st = .pt p i f ∧ Ep.wr = pr p ∧ Ep.wr = E.wr.take 1 := by
 simp only [opW] at hE
 split at hE
 case h_2 => exact hE.elim
 rename_i p i f hb
 split at hE
 case h_2 => exact hE.elim
 rename_i us H1 ds ht
 obtain ⟨hlen, hrow, rfl⟩ := hE
 split at hrow
 case h_2 => exact hrow.elim
 rename_i cs hr1
 have hp0 := node_ne hr1
 obtain ⟨s0, r0, rfl⟩ : ∃ s t, p = s :: t := by cases p with
  | nil => exact absurd rfl hp0
  | cons s t => exact ⟨s, t, rfl⟩
 have hrp : s0.1 ∉ rootsT (y.ev st) := fun h => hr s0.1 (by simp) (by rw [hb]; simp [rootsL, rootsT, h])
 have hcells : ∀ r, r ∈ rootsL (cellsT (y.ev st)) → r ∈ rootsT (y.ev st) := by
  intro r h
  exact rootsL_cells h
 obtain ⟨_, _, hself, hds⟩ := takeL_loc ht (H' := st.H) (fun _ _ => rfl)
 have hH1 : ∀ r, r ∉ prs ds → H1 r = st.H r := hself.off
 have hs0 : s0.1 ∉ prs ds := fun h => hrp (hcells _ (hds _ h))
 have hrow0 : rowAt st.H (s0 :: r0) i = some cs := by
  rw [← hr1]; symm
  exact rowAt_loc (fun r hr => by simp at hr; subst hr; exact hH1 _ hs0)
 have htz : takeL (cellsT z) st.H = some (cellsT z, st.H, []) := takeL_noref _ _ hnr
 have hDp : ∀ q, (under [] q || under ((List.range n).map fun j => (s0 :: r0) ++ [(i, f + j)]) q) = under ((List.range n).map fun j => (s0 :: r0) ++ [(i, f + j)]) q := fun q => by simp [under]
 refine ⟨{ v := .junk, dead := some (fun q => under [] q || under ((List.range n).map fun j => (s0 :: r0) ++ [(i, f + j)]) q), H := putL (s0 :: r0) i f (cellsT z) st.H, wr := ((s0 :: r0).head?.map (·.1)).toList ++ ([] : List Path).filterMap (fun p => p.head?.map (·.1)) },
  ?_⟩
 have hx2 : a.ev (st.put none { v := .junk, dead := some (fun q => under [] q || under ((List.range n).map fun j => (s0 :: r0) ++ [(i, f + j)]) q), H := putL (s0 :: r0) i f (cellsT z) st.H, wr := ((s0 :: r0).head?.map (·.1)).toList ++ ([] : List Path).filterMap (fun p => p.head?.map (·.1)) }) = a.ev st := by
  cases a with
  | c v => rfl
  | t k =>
   have hb' : st.t k = .pt (s0 :: r0) i f := hb
   simp only [TOpd.ev, St.put, deadT, hb', killT, hDp, under_self]
   simp
 have hy2 : y.ev (st.put none { v := .junk, dead := some (fun q => under [] q || under ((List.range n).map fun j => (s0 :: r0) ++ [(i, f + j)]) q), H := putL (s0 :: r0) i f (cellsT z) st.H, wr := ((s0 :: r0).head?.map (·.1)).toList ++ ([] : List Path).filterMap (fun p => p.head?.map (·.1)) }) = y.ev st := by
  cases y with
  | c v => rfl
  | t k =>
   simp only [TOpd.ev, St.put]
   simp only [reduceCtorEq, if_false]
   refine deadT_off (W := [s0.1]) (fun q hq => ?_) _ (fun r hr => by simp at hr; subst hr; exact hrp)
   simp only [deadB, hDp] at hq
   obtain ⟨s, t, h1, h2⟩ := under_root hp0 hq
   exact ⟨s, t, h1, by simpa using h2⟩
 generalize hEp : ({ v := .junk, dead := some (fun q => under [] q || under ((List.range n).map fun j => (s0 :: r0) ++ [(i, f + j)]) q), H := putL (s0 :: r0) i f (cellsT z) st.H, wr := ((s0 :: r0).head?.map (·.1)).toList ++ ([] : List Path).filterMap (fun p => p.head?.map (·.1)) } : Eff) = Ep at hx2 hy2 ⊢
 have hEH : (st.put none Ep).H = putL (s0 :: r0) i f (cellsT z) st.H := by rw [← hEp]; rfl
 have hag : Agree (rootsL (cellsT (y.ev st))) st.H (st.put none Ep).H := by
  intro r hr
  rw [hEH]
  exact putL_off hp0 (by simp; rintro rfl; exact hrp (hcells _ hr))
 obtain ⟨H1', ht', hloc, _⟩ := takeL_loc ht hag
 obtain ⟨cs', hc1, hc2, _⟩ := row_putL (us := cellsT z) (f := f) hrow0 (by omega)
 have hrow' : rowAt H1' (s0 :: r0) i = some cs' := by
  rw [← hc1, ← hEH]
  exact rowAt_loc (fun r hr => by simp at hr; subst hr; exact (hloc.mix _).2 hs0)
 have hfin : putL (s0 :: r0) i f us H1' = putL (s0 :: r0) i f us H1 := by
  funext r
  by_cases hr : r = s0.1
  ·subst hr
   rw [putL_at hp0 ((hloc.mix _).2 hs0), hEH, putL_junk _ _ hp0 _ _ _ _ (by omega)]
   exact (putL_at hp0 (hH1 _ hs0)).symm
  ·rw [putL_off hp0 (by simpa using hr), putL_off hp0 (by simpa using hr)]
   by_cases hd : r ∈ prs ds
   ·exact (hloc.mix r).1 hd
   ·rw [(hloc.mix r).2 hd, hEH, putL_off hp0 (by simpa using hr), hH1 r hd]
 refine ⟨{ v := .junk, dead := some (fun q => under ds q || under ((List.range n).map fun j => (s0 :: r0) ++ [(i, f + j)]) q), H := putL (s0 :: r0) i f us H1', wr := ((s0 :: r0).head?.map (·.1)).toList ++ ds.filterMap (fun p => p.head?.map (·.1)) }, s0 :: r0, i, f, ?_, ?_, ?_, hx2, hy2, rfl, rfl, rfl, rfl, by rw [← hEp], hb, by rw [← hEp]; rfl, by rw [← hEp]; rfl⟩
 ·have ez : (TOpd.c z).ev st = z := rfl
  simp only [opW, ez, hb, htz]
  exact ⟨hpl, by rw [hrow0]; exact hrow, hEp⟩
 ·simp only [opW, hx2, hy2, hb, ht', hrow']
  exact ⟨hlen, by omega, trivial⟩
 ·refine st_ext ?_ ?_ ?_
  ·funext k
   simp only [St.put]
   simp only [reduceCtorEq, if_false]
   rw [← hEp]
   exact killT_sub (fun q hq => by rw [hDp] at hq; rw [hq, Bool.or_true]) _
  ·exact hfin
  ·funext q
   cases q with
   | nil => rfl
   | cons s t =>
    simp only [St.put, orgPut]
    rw [← hEp]
    simp only [deadB, hDp, reduceCtorEq, if_false]
    by_cases hu : under ((List.range n).map fun j => (s0 :: r0) ++ [(i, f + j)]) (s :: t) = true
    ·simp only [hu, Bool.or_true, if_true]
    ·simp only [Bool.eq_false_iff.2 hu, Bool.or_false, Bool.false_eq_true, if_false]
def pinT : Value → TV
 | .agg cs => .ag (cs.toList.map .pin)
 | v => .pin v
theorem pinT_cells (v : Value) : cellsT (pinT v) = (cellsV v).map .pin := by cases v <;> rfl
theorem rootsL_pins (vs : List Value) : rootsL (vs.map .pin) = [] := by
 induction vs with
 | nil => rfl
 | cons v vs ih => simp [rootsL, rootsT, ih]
theorem njL_pins (vs : List Value) : njL (vs.map .pin) = true := by
 induction vs with
 | nil => rfl
 | cons v vs ih => simp [njL, njT, ih]
theorem pinT_roots (v : Value) : rootsT (pinT v) = [] := by
 cases v <;> first | rfl | exact rootsL_pins _
theorem pinT_rv {κ : Path → Value} {A : Nat → Nat → Prop} {v : Value} (h : ∀ y ∈ cellsV v, y.oneCell' = true) : RV w κ H A (pinT v) v := by
 cases v with
 | agg cs =>
  simp only [pinT]
  refine .ag _ _ (by simp) fun j c hc => ?_
  simp only [List.getElem?_map, Array.getElem?_toList, Option.map_eq_some_iff] at hc
  obtain ⟨z, hz, rfl⟩ := hc
  rw [hz]
  exact .pure _ _ (.pin _ (h z (by simp only [cellsV]; exact Array.mem_toList_iff.2 (Array.mem_of_getElem? hz))))
 | _ => exact .pure _ _ (.pin _ (h _ (by simp [cellsV])))
def fitT (u : TV) : Prop := ∀ c ∈ cellsT u, c ≠ .junk ∧ (∀ vs, c ≠ .tu vs) ∧ isAg c = false
theorem fit1_kill {d : Path → Bool} {c : TV} (h : killT d c ≠ .junk ∧ (∀ vs, killT d c ≠ .tu vs) ∧ isAg (killT d c) = false) : c ≠ .junk ∧ (∀ vs, c ≠ .tu vs) ∧ isAg c = false := by
 refine ⟨?_, fun vs => ?_, ?_⟩
 ·rintro rfl; exact h.1 rfl
 ·rintro rfl; exact h.2.1 _ rfl
 ·cases c <;> first | rfl | exact h.2.2
theorem killL_mem {d : Path → Bool} {c : TV} : ∀ {cs : List TV}, c ∈ cs → killT d c ∈ killL d cs
 | _ :: _, h => by
  simp only [killL]
  rcases List.mem_cons.1 h with rfl | h
  ·exact List.mem_cons_self
  ·exact List.mem_cons_of_mem _ (killL_mem h)
theorem fit_kill {d : Option (Path → Bool)} {u : TV} (h : fitT (deadT d u)) : fitT u := by
 cases d with
 | none => exact h
 | some d =>
  intro c hc
  by_cases hu : isAg u = true
  ·obtain ⟨cs, rfl⟩ : ∃ cs, u = .ag cs := by
    cases u <;> first | exact ⟨_, rfl⟩ | cases hu
   exact fit1_kill (h _ (killL_mem hc))
  ·have : c = u := by cases u <;> simp_all [cellsT, isAg]
   subst this
   refine fit1_kill (d := d) (h _ ?_)
   have : isAg (killT d c) = false := by
    cases c <;> simp only [killT] <;> first
     | rfl
     | (split <;> rfl)
     | exact absurd rfl hu
   show killT d c ∈ cellsT (killT d c)
   generalize killT d c = z at this
   cases z <;> first | exact List.mem_singleton.2 rfl | cases this
theorem fit_cells {κ : Path → Value} {A : Nat → Nat → Prop} {u : TV} {v : Value} (hv : RV w κ H A u v) (h : fitT u) : (cellsT u).length = (cellsV v).length ∧ ∀ y ∈ cellsV v, y.oneCell' = true := by
 have hn : isAg u = true ∨ (∀ vs, u ≠ .tu vs) := by
  by_cases hg : isAg u = true
  ·exact .inl hg
  ·refine .inr fun vs hh => ?_
   subst hh
   exact (h (.tu vs) (by simp [cellsT])).2.1 vs rfl
 obtain ⟨hl, hc⟩ := rv_cells hv (fun c hc => (h c hc).1) hn
 refine ⟨hl, fun y hy => ?_⟩
 obtain ⟨j, hj⟩ := List.getElem?_of_mem hy
 have hlt : j < (cellsT u).length := by have := (List.getElem?_eq_some_iff.1 hj).1; omega
 have hjc : (cellsT u)[j]? = some (cellsT u)[j] := List.getElem?_eq_getElem hlt
 exact oneCell_of (hc j _ y hjc hj) (h _ (List.getElem_mem hlt))
theorem setCell_same {B off : Nat} {v : Value} {arr : Array Value} {T : TypeId} {fz : Nat × Nat} (hb : w.heap[B]? = some (.cells arr T fz)) (hv : arr[off]? = some v) : w.setCell ⟨B, off, none⟩ v = w := by
 have e : (w.setCell ⟨B, off, none⟩ v).heap = w.heap := by
  refine Array.ext_getElem? fun k => ?_
  rw [setCell_heap hb]
  split
  ·rename_i h; subst h
   rw [hb]
   congr 2
   refine Array.ext_getElem? fun j => ?_
   rw [Array.getElem?_setIfInBounds]
   split
   ·rename_i h; subst h
    have := (Array.getElem?_eq_some_iff.1 hv).1
    simp [this, hv]
    exact (Array.getElem?_eq_some_iff.1 hv).2.symm
   ·rfl
  ·rfl
 have : w.setCell ⟨B, off, none⟩ v = { w with heap := (w.setCell ⟨B, off, none⟩ v).heap } := rfl
 rw [this, e]
theorem setCells_same {B : Nat} {arr : Array Value} {T : TypeId} {fz : Nat × Nat} : ∀ (vs : List Value) (off : Nat), w.heap[B]? = some (.cells arr T fz) → (∀ j v, vs[j]? = some v → arr[off + j]? = some v) → w.setCells B off vs = w
 | [], _, _, _ => rfl
 | v :: vs, off, hb, h => by
  simp only [World.setCells]
  rw [setCell_same hb (by simpa using h 0 v rfl)]
  exact setCells_same vs (off + 1) hb fun j x hj => by rw [show off + 1 + j = off + (j + 1) by omega]; exact h (j + 1) x (by simpa using hj)
theorem pin_commit {o : Oper} {t : TypeId} {x y : Operand} {x' y' : TOpd} {n : Nat} {a : Act} {p : Path} {i f : Nat} {cs : List TV} (hop : o.op = .store t x y) (hn : tySize P t = some n) (hx : compOpd P t x = some x') (hy : compOpd P t y = some y')
  (hd : o.dst = none) (hR : Rel F st a w) (hE : opW P st root (.store n x' y') (· = E)) (hp : x'.ev st = .pt p i f) (hr : rowAt st.H p i = some cs) (hl : f + (cellsV (a.eval y)).length ≤ cs.length)
  (hpin : ∀ j v, (cellsV (a.eval y))[j]? = some v → cs[f + j]? = some (.pin v)) : Rel F (st.put none E) a w := by
 obtain ⟨B, off, m1, m2, _, _, hRel⟩ := store_at (o := o) hop hn hx hR (fun κ h4 => opd_rv hy h4) (by simp [hd]) hE
 obtain ⟨κ, γ, h1, h2, h3, h4, h5, h6, h7⟩ := hR
 have hpv := opd_rv hx h4; rw [hp] at hpv
 obtain ⟨B1, off1, arr, T, e1, e2, e3, e4, _⟩ := pt_read h1 hpv hr hl
 rw [m1] at e1
 simp only [Value.pointer.injEq, Option.some.injEq, Addr.mk.injEq] at e1
 obtain ⟨rfl, rfl, _⟩ := e1
 rw [hd, setCells_same _ _ e2 (fun j v hj => ?_)] at hRel
 ·exact hRel
 ·have hlt := (List.getElem?_eq_some_iff.1 hj).1
  have := e4 j _ hlt (hpin j v hj)
  have hin : off + j < arr.size := by omega
  have h5 : (arr[off + j]?).getD undef = v := by
   cases this with
   | pure _ _ _ h => cases h; rfl
  simp only [hin, getElem?_pos, Option.getD_some] at h5
  simp [hin, h5]
theorem wp_put {P : Program} {Q : Exit → Act → World → Prop} {o : Oper} {a : Act} {w : World} {K : Act → World → Prop} (hh : o.wp P a w K Q) : o.wp P a w (fun a' w' => K a' w' ∧ ∃ v ds, a' = ({ a with defers := ds } : Act).put o.dst v) Q := by
 unfold Oper.wp at *
 generalize (execOp a.eval o).run P w = r at *
 cases r with
 | ok n w' =>
  cases n <;> simp only [Oper.upon] at hh ⊢ <;>
   first
    | exact ⟨hh, _, _, rfl⟩
    | exact Calls.mono hh (fun e w'' he => by cases e <;> first | exact ⟨he, _, _, rfl⟩ | exact he)
    | exact Rows.mono hh (fun _ _ he => ⟨he, _, _, rfl⟩)
 | halt x w' => cases x <;> simp only [Oper.upon] at hh ⊢ <;> exact hh
theorem wpOp_put {P : Program} {ops : Array Oper} {Q : Exit → Act → World → Prop} {i : Nat} {o : Oper} {a : Act} {w : World} {K : Act → World → Prop} (ho : ops[i]? = some o) (hh : wpOp P ops Q i K a w) :
  wpOp P ops Q i (fun a' w' => K a' w' ∧ ∃ v ds, a' = ({ a with defers := ds } : Act).put o.dst v) a w := by
 unfold wpOp at *
 simp only [ho] at hh ⊢
 split
 ·rename_i hw; simp only [hw, if_true] at hh; exact hh.imp wp_put id
 ·rename_i hw; simp only [hw] at hh; exact ⟨hh, _, a.defers, rfl⟩
theorem eval_put {P : Program} {t : TypeId} {y : Operand} {y' : TOpd} {a : Act} {ds : List Deferred} {dst : Option Tmp} {v : Value} (hy : compOpd P t y = some y') (hd : ∀ d, dst = some d → d ∉ y'.tm) :
  (({ a with defers := ds } : Act).put dst v).eval y = a.eval y := by
 cases y with
 | tmp n =>
  simp only [compOpd, Option.some.injEq] at hy; subst hy
  cases dst with
  | none => rfl
  | some d =>
   have : d ≠ n := by simpa [TOpd.tm] using hd d rfl
   simp [Act.put, Act.eval, Array.getD_eq_getD_getElem?, Array.getElem?_setIfInBounds, this]
 | const c => cases dst <;> rfl
 | func f => cases dst <;> rfl
 | global g => cases dst <;> rfl
theorem pin_facts {n : Nat} {a : TOpd} {z : TV} (hE : opW P st root (.store n a (.c z)) (· = E)) (hnr : ∀ c ∈ cellsT z, noref c = true) :
  ∃ p i f cs, a.ev st = .pt p i f ∧ p ≠ [] ∧ E.wr = pr p ∧ a.ev (st.put none E) = .pt p i f ∧ rowAt (st.put none E).H p i = some cs ∧ f + n ≤ cs.length ∧ (cellsT z).length = n ∧ ∀ j u, (cellsT z)[j]? = some u → cs[f + j]? = some u := by
 have htz : takeL (cellsT z) st.H = some (cellsT z, st.H, []) := takeL_noref _ _ hnr
 have ez : (TOpd.c z).ev st = z := rfl
 simp only [opW, ez] at hE
 split at hE
 case h_2 => exact hE.elim
 rename_i p i f hb
 rw [htz] at hE
 simp only at hE
 obtain ⟨hlen, hrow, rfl⟩ := hE
 split at hrow
 case h_2 => exact hrow.elim
 rename_i cs hr
 have hp0 := node_ne hr
 obtain ⟨cs', h1, h2, h3⟩ := row_putL (us := cellsT z) (f := f) hr (by omega)
 refine ⟨p, i, f, cs', hb, hp0, by simp [pr], ?_, h1, by omega, hlen, h3⟩
 cases a with
 | c v => exact hb
 | t k =>
  have hb' : st.t k = .pt p i f := hb
  simp only [TOpd.ev, St.put, deadT, hb', killT, under_self, reduceCtorEq, if_false]
  simp [under]
theorem cells_dead (d : Option (Path → Bool)) (u : TV) : (cellsT (deadT d u)).length = (cellsT u).length := by
 cases d with
 | none => rfl
 | some d =>
  cases u <;> simp only [deadT, killT] <;> first
   | rfl
   | (split <;> rfl)
   | (simp only [cellsT]; rename_i cs; induction cs with
     | nil => rfl
     | cons c cs ih => simp [killL, ih])
theorem run_app {it : Nat → TOper × Foot} : ∀ {L1 L2 : List Nat} {st st' : St}, Run P it (L1 ++ L2) st st' ↔ ∃ st1, Run P it L1 st st1 ∧ Run P it L2 st1 st'
 | [], L2, st, st' => ⟨fun h => ⟨st, rfl, h⟩, fun ⟨_, h1, h2⟩ => by cases h1; exact h2⟩
 | i :: L1, L2, st, st' => by
  constructor
  ·rintro ⟨E, h1, h2⟩
   obtain ⟨st1, h3, h4⟩ := run_app.1 h2
   exact ⟨st1, ⟨E, h1, h3⟩, h4⟩
  ·rintro ⟨st1, ⟨E, h1, h2⟩, h3⟩
   exact ⟨E, h1, run_app.2 ⟨st1, h2, h3⟩⟩
theorem run_congr {it it' : Nat → TOper × Foot} : ∀ {L : List Nat} {st st' : St}, (∀ i ∈ L, it' i = it i) → Run P it L st st' → Run P it' L st st'
 | [], _, _, _, h => h
 | i :: L, st, st', he, ⟨E, h1, h2⟩ => by
  have e := he i List.mem_cons_self
  exact ⟨E, by rw [e]; exact h1, by rw [e]; exact run_congr (fun j hj => he j (List.mem_cons_of_mem _ hj)) h2⟩
theorem run_fit {it : Nat → TOper × Foot} {k : Nat} : ∀ {L : List Nat} {st st' : St}, (∀ i ∈ L, (it i).1.dst ≠ some k) → Run P it L st st' → fitT (st'.t k) → fitT (st.t k)
 | [], _, _, _, h, hf => by cases h; exact hf
 | i :: L, st, st', he, ⟨E, h1, h2⟩, hf => by
  have := run_fit (fun j hj => he j (List.mem_cons_of_mem _ hj)) h2 hf
  simp only [St.put, he i List.mem_cons_self, if_false] at this
  exact fit_kill this
theorem run_len {it : Nat → TOper × Foot} {k : Nat} : ∀ {L : List Nat} {st st' : St}, (∀ i ∈ L, (it i).1.dst ≠ some k) → Run P it L st st' → (cellsT (st'.t k)).length = (cellsT (st.t k)).length
 | [], _, _, _, h => by cases h; rfl
 | i :: L, st, st', he, ⟨E, h1, h2⟩ => by
  have := run_len (fun j hj => he j (List.mem_cons_of_mem _ hj)) h2
  simp only [St.put, he i List.mem_cons_self, if_false] at this
  rw [this, cells_dead]
structure Late (P : Program) (it : Nat → TOper × Foot) (o : Oper) (s : Nat) (t : TypeId) (x y : Operand) (x' y' : TOpd) (n : Nat) : Prop where
 op : o.op = .store t x y
 dst : o.dst = none
 guard : o.guard = none
 tdst : (it s).1.dst = none
 tguard : (it s).1.guard = none
 top : (it s).1.op = .store n x' y'
 size : tySize P t = some n
 cx : compOpd P t x = some x'
 cy : compOpd P t y = some y'
 disj : disj ((it s).2.wr.take 1) ((it s).2.rd.drop 1) = true
structure Pinned (it : Nat → TOper × Foot) (s : Nat) (y : Operand) (x' : TOpd) (st : St) (a : Act) (p : Path) (i f : Nat) (cs : List TV) : Prop where
 wr : (it s).2.wr.take 1 = pr p
 ne : p ≠ []
 at_ : x'.ev st = .pt p i f
 row : rowAt st.H p i = some cs
 len : f + (cellsV (a.eval y)).length ≤ cs.length
 pin : ∀ j v, (cellsV (a.eval y))[j]? = some v → cs[f + j]? = some (.pin v)
theorem stepF_plain {o : TOper} {f : Foot} (hg : o.guard = none) : StepF P st o E f ↔ opW P st o.root o.op (· = E) ∧ f = footOf st o E := by
 unfold StepF
 rw [hg]
 simp [wantW]
theorem pinned_step {it : Nat → TOper × Foot} {o : Oper} {s : Nat} {t : TypeId} {x y : Operand} {x' y' : TOpd} {n : Nat} {a a' : Act} {p : Path} {i f : Nat} {cs : List TV} {ti : TOper} {g : Foot}
  (hl : Late P it o s t x y x' y' n) (hp : Pinned it s y x' st a p i f cs) (hS : StepF P st ti E g) (hT : IndT ti (it s).1) (hI : IndF g (lateFoot (it s).2)) (ha : a'.eval y = a.eval y) :
  Pinned it s y x' (st.put ti.dst E) a' p i f cs := by
 obtain ⟨off, _, ded⟩ := step_self hS
 obtain ⟨fw, _, _⟩ := step_foot hS
 obtain ⟨s0, r0, rfl⟩ : ∃ s t, p = s :: t := by cases p with
  | nil => exact absurd rfl hp.ne
  | cons s t => exact ⟨s, t, rfl⟩
 have hr : s0.1 ∉ E.wr := fun h => (hI.a s0.1 (by rw [fw]; exact h)).2.1 (by simp only [lateFoot]; rw [hp.wr]; simp)
 refine ⟨hp.wr, hp.ne, ?_, ?_, by rw [ha]; exact hp.len, by rw [ha]; exact hp.pin⟩
 ·have h0 := hp.at_
  cases x' with
  | c v => exact h0
  | t k =>
   have hk : ti.dst ≠ some k := fun h => (hT.a k h).1 (by simp [lookT, hl.top, opTm, TOpd.tm])
   have h0' : st.t k = .pt (s0 :: r0) i f := h0
   simp only [TOpd.ev, St.put, hk, if_false, h0']
   refine deadT_off (W := E.wr) (fun q hq => ded q hq) _ fun r hr' hm => ?_
   simp [rootsT] at hm
   subst hm; exact hr hr'
 ·rw [← hp.row]
  exact rowAt_loc fun r hr' => by simp at hr'; subst hr'; exact off _ hr
theorem late_commit {it : Nat → TOper × Foot} {o : Oper} {s : Nat} {t : TypeId} {x y : Operand} {x' y' : TOpd} {n : Nat} {a : Act} {p : Path} {i f : Nat} {cs : List TV} {g : Foot}
  (hl : Late P it o s t x y x' y' n) (hp : Pinned it s y x' st a p i f cs) (hS : StepF P st (it s).1 E g) (hR : Rel F st a w) : Rel F (st.put (it s).1.dst E) a w := by
 obtain ⟨h1, _⟩ := (stepF_plain hl.tguard).1 hS
 rw [hl.top] at h1
 rw [hl.tdst]
 exact pin_commit hl.op hl.size hl.cx hl.cy hl.dst hR h1 hp.at_ hp.row hp.len hp.pin
theorem late_early {it : Nat → TOper × Foot} {ops : Array Oper} {Q : Exit → Act → World → Prop} {K : Act → World → Prop} {o : Oper} {s N : Nat} {t : TypeId} {x y : Operand} {x' y' : TOpd} {n : Nat} {a : Act} {pre post : List Nat}
  (ho : ops[s]? = some o) (hl : Late P it o s t x y x' y' n) (hrun : Run P it (pre ++ s :: post) st st') (hN : ∀ j ∈ pre ++ s :: post, j ≠ N)
  (hpre : ∀ j ∈ pre, IndT (it j).1 (it s).1 ∧ IndF (it j).2 (lateFoot (it s).2)) (hR : Rel F st a w)
  (hK : ∀ st2 w2 p i f cs, Rel F st2 a w2 → Run P it (pre ++ s :: post) st2 st' → Pinned it s y x' st2 a p i f cs → K a w2) : wpOp P ops Q s K a w := by
 obtain ⟨st1, hr1, E, hS, hr2⟩ := run_app.1 hrun
 obtain ⟨hE, hf⟩ := (stepF_plain hl.tguard).1 hS
 rw [hl.top] at hE
 have hrd : (it s).2.rd = rootsL [x'.ev st1, y'.ev st1] := by rw [hf]; simp only [footOf, hl.top, opT]
 have hwr : (it s).2.wr = E.wr := by rw [hf]; rfl
 have hfit1 : fitT (y'.ev st1) := by
  have h := hE
  simp only [opW] at h
  split at h
  case h_2 => exact h.elim
  split at h
  case h_2 => exact h.elim
  rename_i ht
  exact takeL_fit ht
 have hfit : fitT (y'.ev st) := by
  cases hy' : y' with
  | c v => rw [hy'] at hfit1; exact hfit1
  | t k =>
   rw [hy'] at hfit1
   refine run_fit (fun j hj hd => ?_) hr1 hfit1
   exact ((hpre j hj).1.a k hd).1 (by simp [lookT, hl.top, opTm, TOpd.tm, hy'])
 have hval : (cellsT (y'.ev st)).length = (cellsV (a.eval y)).length ∧ ∀ z ∈ cellsV (a.eval y), z.oneCell' = true := by
  obtain ⟨κ, γ, h1, h2, h3, h4, h5, h6, h7⟩ := hR
  exact fit_cells (opd_rv hl.cy h4) hfit
 have hlen1 : (cellsT (y'.ev st1)).length = n := by
  have h := hE
  simp only [opW] at h
  split at h
  case h_2 => exact h.elim
  split at h
  case h_2 => exact h.elim
  rename_i ht
  rw [← takeL_length ht]
  exact h.1
 have hlen0 : (cellsT (y'.ev st)).length = n := by
  rw [← hlen1]
  cases hy' : y' with
  | c v => rfl
  | t k => exact (run_len (fun j hj hd => ((hpre j hj).1.a k hd).1 (by simp [lookT, hl.top, opTm, TOpd.tm, hy'])) hr1).symm
 have hzl : (cellsT (pinT (a.eval y))).length = n := by rw [pinT_cells, List.length_map, ← hval.1, hlen0]
 have hnr : ∀ c ∈ cellsT (pinT (a.eval y)), noref c = true := by
  intro c hc
  rw [pinT_cells] at hc
  obtain ⟨v, _, rfl⟩ := List.mem_map.1 hc
  rfl
 obtain ⟨Ep, E', p, i, f, k1, k2, k3, k4, k5, k6, k7, k8, k9, k10, k11, k12, k13⟩ := late_ow hE (fun r h1 h2 => disj_spec hl.disj r (by rw [hwr]; exact h1) (by rw [hrd]; exact h2)) hzl hnr
 have hpr : ∃ r, pr p = [r] := by
  obtain ⟨p', _, _, _, e1, e2, _⟩ := pin_facts k1 hnr
  rw [k11] at e1; cases e1
  cases p with
  | nil => exact absurd rfl e2
  | cons s t => exact ⟨s.1, rfl⟩
 obtain ⟨r, hpr⟩ := hpr
 let po : TOper := { (it s).1 with op := .store n x' (.c (pinT (a.eval y))) }
 let pf : Foot := footOf st1 po Ep
 let it' : Nat → TOper × Foot := fun j => if j = N then (po, pf) else it j
 have hit' : ∀ j, j ≠ N → it' j = it j := fun j hj => by simp [it', hj]
 have hitN : it' N = (po, pf) := by simp [it']
 have hlp : ∀ j ∈ pre, j ≠ N := fun j hj => hN j (List.mem_append_left _ hj)
 have hsN : s ≠ N := hN s (by simp)
 have hall2 : ∀ j ∈ pre ++ s :: post, it' j = it j := fun j hj => hit' j (hN j hj)
 have hrd1 : rootsL [x'.ev st1, y'.ev st1] = r :: rootsT (y'.ev st1) := by
  rw [k11]; simp only [rootsL, rootsT, List.append_nil]
  have : (p.head?.map (·.1)).toList = [r] := hpr
  rw [this]; rfl
 have hpfrd : pf.rd = [r] := by
  show rootsL [x'.ev st1, pinT (a.eval y)] = [r]
  rw [k11]; simp only [rootsL, rootsT, pinT_roots, List.append_nil]; exact hpr
 have hpfwr : pf.wr = [r] := by show Ep.wr = [r]; rw [k12, hpr]
 have hpfnj : pf.nj = true := by
  show njL [x'.ev st1, pinT (a.eval y)] = true
  rw [k11]
  have : njT (pinT (a.eval y)) = true := by cases a.eval y <;> first | rfl | exact njL_pins _
  simp [njL, njT, this]
 have hlrd : (lateFoot (it s).2).rd = [r] := by simp only [lateFoot]; rw [hrd, hrd1]; rfl
 have hlwr : (lateFoot (it s).2).wr = [r] := by simp only [lateFoot]; rw [hwr, ← k13, k12, hpr]
 have hlroot : (it s).2.root = (it s).1.root := by rw [hf]; rfl
 have hrunp : Run P it' (pre ++ N :: s :: post) st st' := by
  refine run_app.2 ⟨st1, run_congr (fun j hj => hit' j (hlp j hj)) hr1, Ep, ?_, E', ?_, ?_⟩
  ·rw [hitN]
   exact (stepF_plain (o := po) hl.tguard).2 ⟨k1, rfl⟩
  ·rw [hitN, hit' s hsN]
   have e : st1.put po.dst Ep = st1.put none Ep := by show st1.put (it s).1.dst Ep = _; rw [hl.tdst]
   rw [e]
   refine (stepF_plain hl.tguard).2 ⟨by rw [hl.top]; exact k2, ?_⟩
   rw [hf]
   simp only [footOf, hl.top, opT, k4, k5, k6, k7, k8, voOf]
  ·rw [hitN, hit' s hsN]
   have e : st1.put po.dst Ep = st1.put none Ep := by show st1.put (it s).1.dst Ep = _; rw [hl.tdst]
   rw [e]
   rw [hl.tdst] at hr2 ⊢
   rw [k3]
   exact run_congr (fun j hj => hall2 j (by simp [hj])) hr2
 obtain ⟨E0, hS0, hrun0⟩ := run_pull pre st st' hrunp fun j hj => by
  obtain ⟨hT, hI⟩ := hpre j hj
  rw [hitN, hit' j (hlp j hj)]
  refine ⟨⟨fun d hd => ⟨fun hm => (hT.a d hd).1 ?_, ?_⟩, fun d hd => ?_⟩, .inr (.inl ⟨fun q hq => ?_, fun _ => hpfnj, fun q hq => ?_⟩)⟩
  ·simp only [lookT, po, opTm, TOpd.tm, hl.top, List.append_nil, List.mem_append] at hm ⊢
   rcases hm with h | h
   ·exact .inl h
   ·exact .inr (.inl h)
  ·show (it s).1.dst ≠ some d
   rw [hl.tdst]; simp
  ·have : (it s).1.dst = some d := hd
   rw [hl.tdst] at this; cases this
  ·obtain ⟨c1, c2, c3, c4⟩ := hI.a q hq
   refine ⟨by rw [hpfrd, ← hlrd]; exact c1, by rw [hpfwr, ← hlwr]; exact c2, ?_, ?_⟩
   ·show q ≠ (it s).1.root
    rw [← hlroot]; exact c3
   ·show q ∉ rootsT Ep.v
    rw [k10]; simp [rootsT]
  ·rw [hpfwr, ← hlwr] at hq
   exact hI.b q hq
 rw [hitN] at hS0 hrun0
 have e0 : st.put po.dst E0 = st.put none E0 := by show st.put (it s).1.dst E0 = _; rw [hl.tdst]
 rw [e0] at hrun0
 obtain ⟨q1, q2⟩ := (stepF_plain (o := po) hl.tguard).1 hS0
 have q1' : opW P st (it s).1.root (.store n x' (.c (pinT (a.eval y)))) (· = E0) := q1
 obtain ⟨p0, i0, f0, cs0, g1, g2, g3, g4, g5, g6, g7, g8⟩ := pin_facts q1' hnr
 obtain ⟨B, off, m1, m2, m3, m4, m5⟩ := store_at (o := o) (y := y) hl.op hl.size hl.cx hR (y' := .c (pinT (a.eval y))) (fun κ _ => pinT_rv hval.2) (by simp [hl.dst]) q1'
 rw [hl.dst] at m5
 have hpin : Pinned it s y x' (st.put none E0) a p0 i0 f0 cs0 := by
  refine ⟨?_, g2, g4, g5, by omega, fun j v hj => ?_⟩
  ·have : pf.wr = E0.wr := congrArg Foot.wr q2
   rw [hwr, ← k13, ← g3, ← this]; rfl
  ·refine g8 j _ ?_
   rw [pinT_cells, List.getElem?_map, hj]; rfl
 have hk := hK _ _ p0 i0 f0 cs0 m5 (run_congr (fun j hj => (hall2 j hj).symm) hrun0) hpin
 unfold wpOp
 have hw : Region.wanted o (yielded ops a.tmps) = true := by simp [Region.wanted, hl.guard]
 simp only [ho, hw, if_true]
 refine .inl ?_
 unfold Oper.wp
 rw [m4, Oper.upon_skip, hl.dst]
 exact hk
end
end Go.Proofs.YtmedelmfkciblaaT

