/- TM, part W: strings out of bytes, comparisons: shown right. -/
import Derived.Test.YtloodkhdngipbaaTmY
namespace Go.Proofs.YtloodkhdngipbaaT
set_option linter.unusedVariables false
set_option linter.unusedSimpArgs false
open Go

section
variable {P : Program} {F : Fr} {st : St} {w w' w0 : World} {S0 : Nat → Nat → Prop} {κ κ' κ1 : Path → Value} {γ γ' γ1 : Nat → Nat → Option Path} {H H' H1 H2 : Hp} {A A' K : Nat → Nat → Prop} {L : List TV} {o : Oper} {E : Eff} {root : Nat}

theorem bytesT_get : ∀ (es : List (List TV)) (bs : List UInt8), bytesT es = some bs → es.length = bs.length ∧ ∀ j (hj : j < bs.length), ∃ n : Int, es[j]? = some [.i .u8 n] ∧ bs[j] = UInt8.ofNat n.toNat
  | [], bs, h => by
    simp only [bytesT, Option.some.injEq] at h; subst h
    exact ⟨rfl, fun j hj => absurd hj (by simp)⟩
  | e :: es, bs, h => by
    unfold bytesT at h
    split at h
    · rename_i heq; cases heq
    · rename_i n rest heq
      cases heq
      simp only [Option.bind_eq_some_iff, Option.some.injEq] at h
      obtain ⟨bs', h1, rfl⟩ := h
      obtain ⟨g1, g2⟩ := bytesT_get es bs' h1
      refine ⟨by simp [g1], fun j hj => ?_⟩
      cases j with
      | zero => exact ⟨n, rfl, rfl⟩
      | succ j => simpa using g2 j (by simpa using hj)
    · cases h

theorem foldl_push_ofNat : ∀ (ns : List Int) (s : ByteArray), (ns.foldl (fun r n => r.push (UInt8.ofNat n.toNat)) s).data = s.data ++ (ns.map fun n => UInt8.ofNat n.toNat).toArray
  | [], s => by simp
  | n :: ns, s => by
    simp only [List.foldl_cons]
    rw [foldl_push_ofNat ns]
    simp [ByteArray.push]

theorem run_bytes {src dst e : TypeId} {a : Option Addr} {l c : Nat} {ns : List Int} (hs : P.underlying src = some (.slice e)) (he : P.underlying e = some (.int .u8)) (hd : P.underlying dst = some .string)
    (hl : l = ns.length) (hc : a = none ∧ l = 0 ∨ ∃ ad, a = some ad ∧ ∀ j (hj : j < ns.length), w.cell? (ad.add j) = some (.int .u8 ns[j])) :
    (convert src dst (.slice a l c)).run P w = .ok (.string ⟨(ns.map fun n => UInt8.ofNat n.toNat).toArray⟩) w := by
  rw [run_convert_bytes_string w src dst e a l c hs he hd]
  rcases hc with ⟨rfl, rfl⟩ | ⟨ad, rfl, hc⟩
  · have : ns = [] := List.eq_nil_of_length_eq_zero hl.symm
    subst this
    simp [Conv.bytesToString]
    rfl
  · have h2 := run_loadCells_list (P := P) w ad (ns.map (Value.int .u8)) (fun j v hj => by
      have hj' : j < ns.length := by
        have := (List.getElem?_eq_some_iff.1 hj).1
        simpa using this
      rw [hc j hj']
      simp [List.getElem?_eq_getElem hj'] at hj
      rw [← hj])
    simp only [List.length_map] at h2
    rw [hl, run_bytesToString w ad ns.length c ns h2]
    congr 2
    have := foldl_push_ofNat ns ByteArray.empty
    have e0 : ByteArray.empty.data = #[] := rfl
    rw [e0] at this
    simp only [Array.empty_append] at this
    rw [← this]

def byteOf : Option (List TV) → Int
  | some [.i .u8 n] => n
  | _ => 0

theorem rr_i {k : IntKind} {n : Int} {v : Value} (h : RR w A (.i k n) v) : v = .int k n := by cases h; rfl

theorem good_toS {s d e : TypeId} {x : Operand} {x' : TOpd} {tx : TypeId} (hop : o.op = .convert s d x) (hs : P.underlying s = some (.slice e)) (he : P.underlying e = some (.int .u8)) (hdd : P.underlying d = some .string) (hx : compOpd P tx x = some x')
    (hd : ∀ d, o.dst = some d → d < F.N) (hE : opW P st root (.toS x') (· = E)) : Good P F o st E := by
  simp only [opW] at hE
  split at hE
  case h_2 => exact hE.elim
  rename_i bs hb
  subst hE
  simp only [Option.bind_eq_some_iff] at hb
  obtain ⟨es, h1, h2⟩ := hb
  obtain ⟨g1, g2⟩ := bytesT_get es bs h2
  refine good_val hd fun a w κ γ hh ht => ?_
  have hxv := opd_rv (P := P) hx ht
  have hz1 : ∀ (es : List (List TV)) (bs : List UInt8), bytesT es = some bs → ∀ e ∈ es, e.length = 1 := by
    intro es bs hb e he
    obtain ⟨q1, q2⟩ := bytesT_get es bs hb
    obtain ⟨j, hj⟩ := List.getElem?_of_mem he
    have hlt : j < bs.length := by have := (List.getElem?_eq_some_iff.1 hj).1; omega
    obtain ⟨n, hn, _⟩ := q2 j hlt
    rw [hn] at hj; cases hj; rfl
  -- what the cells hold
  have key : ∃ (ad : Option Addr) (l c : Nat) (ns : List Int), a.eval x = .slice ad l c ∧ l = ns.length ∧ bs = ns.map (fun n : Int => UInt8.ofNat n.toNat) ∧ (ad = none ∧ l = 0 ∨ ∃ ad', ad = some ad' ∧ ∀ j (hj : j < ns.length), w.cell? (ad'.add j) = some (.int .u8 ns[j])) := by
    have ns_of : ∃ ns : List Int, ns.length = bs.length ∧ ∀ j (hj : j < ns.length), es[j]? = some [.i .u8 ns[j]] ∧ bs[j]? = some (UInt8.ofNat (ns[j]).toNat) := by
      refine ⟨(List.range bs.length).map fun j => byteOf es[j]?, by simp, fun j hj => ?_⟩
      simp only [List.length_map, List.length_range] at hj
      obtain ⟨n, q1, q2⟩ := g2 j hj
      have e1 : ((List.range bs.length).map fun j => byteOf es[j]?)[j]'(by simpa using hj) = n := by simp [q1, byteOf]
      rw [e1]
      exact ⟨q1, by rw [List.getElem?_eq_getElem hj, q2]⟩
    obtain ⟨ns, n1, n2⟩ := ns_of
    have hbs : bs = ns.map (fun n : Int => UInt8.ofNat n.toNat) := by
      refine List.ext_getElem? fun j => ?_
      rw [List.getElem?_map]
      rcases Nat.lt_or_ge j ns.length with hj | hj
      · rw [(n2 j hj).2, List.getElem?_eq_getElem hj]; rfl
      · rw [List.getElem?_eq_none (by omega), List.getElem?_eq_none hj]; rfl
    generalize x'.ev st = u at h1 hxv
    generalize a.eval x = v at hxv
    unfold elemsOf at h1
    split at h1
    · rename_i z es0
      simp only [Option.some.injEq] at h1; subst h1
      cases hxv with
      | pure u v hr =>
        cases hr with
        | sl0 z => exact ⟨none, 0, 0, ns, rfl, by simp at g1; omega, hbs, .inl ⟨rfl, rfl⟩⟩
        | sle z c a => exact ⟨some a, 0, c, ns, rfl, by simp at g1; omega, hbs, .inr ⟨a, rfl, fun j hj => absurd hj (by simp at g1; omega)⟩⟩
        | sl z n c B o' es arr T fz hl hn hz hbk hsz hA hc =>
          refine ⟨_, n, c, ns, rfl, by omega, hbs, .inr ⟨_, rfl, fun j hj => ?_⟩⟩
          obtain ⟨q1, q2⟩ := n2 j hj
          have hz' : z = 1 := by rw [← hz _ (List.mem_of_getElem? q1)]; rfl
          subst hz'
          have := rr_i (hc j 0 _ _ q1 rfl)
          rw [add_mid, cell_of hbk]
          have hlt : o' + j < arr.size := by omega
          rw [show o' + j * 1 + 0 = o' + j by omega, Array.getElem?_eq_getElem hlt] at this
          rw [Array.getElem?_eq_getElem hlt, ← this]; rfl
    · simp only [Option.some.injEq] at h1; subst h1
      cases hxv with
      | pure u v h => cases h
      | nil z => exact ⟨none, 0, 0, ns, rfl, by simp at g1; omega, hbs, .inl ⟨rfl, rfl⟩⟩
    · rename_i p off len
      split at h1
      case h_2 => cases h1
      rename_i z es0 hcell
      simp only [Option.some.injEq] at h1; subst h1
      obtain ⟨o1, o2, o3⟩ := own_elems hh hxv hcell
      have hlen : ((es0.drop off).take len).length = len := by
        rw [List.length_take, List.length_drop]; rcases o2 with o2 | o2 <;> omega
      rcases o3 with ⟨rfl, rfl⟩ | ⟨B, o', c1, arr, T, rfl, b1, b2, b3⟩
      · exact ⟨none, 0, 0, ns, rfl, by omega, hbs, .inl ⟨rfl, rfl⟩⟩
      · refine ⟨_, len, c1, ns, rfl, by omega, hbs, .inr ⟨_, rfl, fun j hj => ?_⟩⟩
        obtain ⟨q1, q2⟩ := n2 j hj
        obtain ⟨q3, q4⟩ := drop_take_get q1
        have hz' : z = 1 := by rw [← o1 _ (List.mem_of_getElem? q4)]; rfl
        subst hz'
        have := rr_i ((b3 j 0 _ _ q3 q4 rfl).pure_of rfl)
        rw [add_mid, cell_of b1]
        have hlt : o' + j < arr.size := by omega
        rw [show o' + (j * 1 + 0) = o' + j by omega, Array.getElem?_eq_getElem hlt] at this
        rw [Array.getElem?_eq_getElem hlt, ← this]; rfl
    · cases h1
  obtain ⟨ad, l, c, ns, k1, k2, k3, k4⟩ := key
  refine ⟨.string ⟨bs.toArray⟩, w, ?_, .refl w, .pure _ _ (.s _)⟩
  simp only [execOp, hop, k1, Sem.run_bind, run_bytes hs he hdd k2 k4, Result.andThen_ok, Sem.run_pure, k3]

/-! ### comparisons -/
theorem eqT_run {k : EK} {d : Nat} {t : TypeId} {u u' : TV} {v v' : Value} {r : Bool} (hb : ekOf P t = some k) (hu : RV w κ H A u v) (hu' : RV w κ H A u' v') (he : eqT k u u' = some r) :
    (Op.equalIn (d + 1) t v v').run P w = .ok r w := by
  unfold eqT at he
  split at he
  · have h1 := rv_b hu; have h2 := rv_b hu'
    subst h1; subst h2
    simp only [Option.some.injEq] at he; subst he
    have ht : P.underlying t = some .bool := by
      unfold ekOf at hb
      split at hb <;> first | assumption | cases hb
    simp [Op.equalIn, run_underlying ht]
  · have h1 := rv_i hu; have h2 := rv_i hu'
    subst h1; subst h2
    split at he
    case isFalse => cases he
    rename_i hk
    subst hk
    simp only [Option.some.injEq] at he; subst he
    have ht : ∃ k', P.underlying t = some (.int k') := by
      unfold ekOf at hb
      split at hb <;> first | exact ⟨_, by assumption⟩ | cases hb
    obtain ⟨k', ht⟩ := ht
    simp [Op.equalIn, run_underlying ht]
  · have h1 := rv_s hu; have h2 := rv_s hu'
    subst h1; subst h2
    simp only [Option.some.injEq] at he; subst he
    have ht : P.underlying t = some .string := by
      unfold ekOf at hb
      split at hb <;> first | assumption | cases hb
    simp [Op.equalIn, run_underlying ht, beq_toListBytes]
  · obtain ⟨y1, h1, c1⟩ := rv_f hu; obtain ⟨y2, h2, c2⟩ := rv_f hu'
    subst h1; subst h2
    simp only [Option.some.injEq] at he; subst he
    have ht : P.underlying t = some (.float .f64) := by
      unfold ekOf at hb
      split at hb <;> first | assumption | cases hb
    rw [← c1, ← c2, order_canon]
    simp [Op.equalIn, run_underlying ht, Op.floatEq]
  · cases he

theorem eqL_run {d : Nat} {xs ys : Array Value} : ∀ (fs : List Field) (i : Nat) (ks : List EK) (us us' : List TV) (r : Bool), optAll (fs.map fun f => ekOf P f.type) = some ks →
    ((fs.zipIdx i).all fun (f, i) => f.name != "_" && f.offset == i) = true →
    (∀ (j : Nat) (u : TV), us[j]? = some u → ∃ v, xs[i + j]? = some v ∧ RV w κ H A u v) → (∀ (j : Nat) (u : TV), us'[j]? = some u → ∃ v, ys[i + j]? = some v ∧ RV w κ H A u v) → eqL ks us us' = some r →
    (Op.eqFields (d + 1) xs ys fs).run P w = .ok r w
  | [], i, ks, us, us', r, hk, hf, hx, hy, he => by
    simp only [List.map_nil, optAll, Option.some.injEq] at hk; subst hk
    cases us <;> cases us' <;> simp [eqL] at he
    subst he
    rfl
  | f :: fs, i, ks, us, us', r, hk, hf, hx, hy, he => by
    simp only [List.map_cons, optAll, Option.bind_eq_some_iff, Option.some.injEq] at hk
    obtain ⟨k, hk1, ks', hk2, rfl⟩ := hk
    simp only [List.zipIdx_cons, List.all_cons, Bool.and_eq_true, bne_iff_ne, ne_eq, beq_iff_eq] at hf
    obtain ⟨⟨hf1, hf2⟩, hf3⟩ := hf
    cases us with
    | nil => simp [eqL] at he
    | cons u us =>
      cases us' with
      | nil => simp [eqL] at he
      | cons u' us' =>
        simp only [eqL, Option.bind_eq_some_iff, Option.some.injEq] at he
        obtain ⟨r1, he1, r2, he2, rfl⟩ := he
        obtain ⟨v, q1, q2⟩ := hx 0 u rfl
        obtain ⟨v', q3, q4⟩ := hy 0 u' rfl
        have hagg : (isAgg f.type).run P w = .ok false w := by
          refine run_agg w ?_
          unfold ekOf at hk1
          simp only [tyAgg]
          cases hu : P.underlying f.type with
          | none => simp [hu] at hk1
          | some d => cases d <;> simp_all
        have hp : ∀ (zs : Array Value) (v : Value), zs[i]? = some v → (part f.type zs f.offset).run P w = .ok v w := by
          intro zs v hz
          unfold part
          simp only [Sem.run_bind, hagg, Result.andThen_ok, hf2, hz]
          simp
        have hrec := eqL_run (d := d) fs (i + 1) ks' us us' r2 hk2 (by simpa using hf3)
          (fun j u hj => by have := hx (j + 1) u (by simpa using hj); rwa [show i + (j + 1) = i + 1 + j by omega] at this)
          (fun j u hj => by have := hy (j + 1) u (by simpa using hj); rwa [show i + (j + 1) = i + 1 + j by omega] at this) he2
        simp only [Op.eqFields, ne_eq, hf1, not_false_eq_true, if_true, Sem.run_bind, hp xs v (by simpa using q1), hp ys v' (by simpa using q3), Result.andThen_ok, eqT_run hk1 q2 q4 he1]
        cases r1 with
        | false => simp
        | true => simpa using hrec

theorem eqT_b {u u' : TV} {r : Bool} (he : eqT .b u u' = some r) : ∃ b1 b2, u = .b b1 ∧ u' = .b b2 := by
  cases u <;> first | (simp [eqT] at he; done) | (cases u' <;> first | (simp [eqT] at he; done) | exact ⟨_, _, rfl, rfl⟩)

theorem good_eqb {neg : Bool} {op : BinOp} {x y : Operand} {x' y' : TOpd} {t u tx ty : TypeId} (hop : o.op = .binOp op t x y u) (ho : op = if neg then .neq else .eql) (hk : P.underlying t = some .bool) (hx : compOpd P tx x = some x') (hy : compOpd P ty y = some y')
    (hd : ∀ d, o.dst = some d → d < F.N) (hE : opW P st root (.eqs neg false [.b] x' y') (· = E)) : Good P F o st E := by
  simp only [opW] at hE
  split at hE
  case h_2 => exact hE.elim
  rename_i r hr
  obtain ⟨a1, a2, rfl⟩ := hE
  refine good_val hd fun a w κ γ hh ht => ?_
  have hxv := opd_rv hx ht
  have hyv := opd_rv hy ht
  rw [notAg_cells a1, notAg_cells a2] at hr
  simp only [eqL, Option.bind_eq_some_iff, Option.some.injEq] at hr
  obtain ⟨r1, he1, r2, rfl, rfl⟩ := hr
  have hrun := fun d => eqT_run (P := P) (d := d) (t := t) (by simp [ekOf, hk]) hxv hyv he1
  have hb : ∃ b1 b2, a.eval x = .bool b1 ∧ a.eval y = .bool b2 := by
    obtain ⟨b1, b2, q1, q2⟩ := eqT_b he1
    rw [q1] at hxv; rw [q2] at hyv
    exact ⟨_, _, rv_b hxv, rv_b hyv⟩
  obtain ⟨b1, b2, e1, e2⟩ := hb
  have hq : (eqGuard op t x y (a.eval x) (a.eval y)).run P w = .ok () w := guard_quiet (.inr (.inr (.inr (.inl ⟨_, e1⟩))))
  rw [e1, e2] at hrun hq
  refine ⟨.bool (r1 ^^ neg), w, ?_, .refl w, by simpa using RV.pure _ _ (.b (r1 ^^ neg))⟩
  simp only [execOp, hop, e1, e2, Sem.run_bind, hq, Result.andThen_ok]
  subst ho
  cases neg
  · simp only [Bool.false_eq_true, if_false, binOp, Op.equal, Op.maxDepth, Sem.run_bind, hrun 9999, Result.andThen_ok, Sem.run_pure]; simp
  · simp only [if_true, binOp, Op.equal, Op.maxDepth, Sem.run_bind, hrun 9999, Result.andThen_ok, Sem.run_pure]; simp

theorem good_eqst {neg : Bool} {op : BinOp} {x y : Operand} {x' y' : TOpd} {t u tx ty : TypeId} {ks : List EK} (hop : o.op = .binOp op t x y u) (ho : op = if neg then .neq else .eql) (hk : flatEq P t = some ks) (hx : compOpd P tx x = some x') (hy : compOpd P ty y = some y')
    (hd : ∀ d, o.dst = some d → d < F.N) (hE : opW P st root (.eqs neg true ks x' y') (· = E)) : Good P F o st E := by
  simp only [opW] at hE
  split at hE
  case h_2 => exact hE.elim
  rename_i r hr
  obtain ⟨a1, a2, rfl⟩ := hE
  refine good_val hd fun a w κ γ hh ht => ?_
  have hxv := opd_rv hx ht
  have hyv := opd_rv hy ht
  have agof : ∀ u : TV, isAg u = true → ∃ cs, u = .ag cs := by intro u h; cases u <;> first | exact ⟨_, rfl⟩ | cases h
  obtain ⟨us, hus⟩ := agof _ a1
  obtain ⟨us', hus'⟩ := agof _ a2
  rw [hus] at hxv hr; rw [hus'] at hyv hr
  obtain ⟨xs, e1, l1, c1⟩ := rv_ag hxv
  obtain ⟨ys, e2, l2, c2⟩ := rv_ag hyv
  unfold flatEq at hk
  split at hk
  case h_2 => cases hk
  rename_i fs hfs
  split at hk
  case isFalse => cases hk
  rename_i hcond
  simp only [Bool.and_eq_true, Bool.not_eq_true'] at hcond
  obtain ⟨⟨k1, k2⟩, k3⟩ := hcond
  have hfo : P.fieldsOf t = fs := by simp [Program.fieldsOf, hfs]
  have hrun : (Op.equalIn 10000 t (.agg xs) (.agg ys)).run P w = .ok r w := by
    rw [show (10000 : Nat) = 9998 + 1 + 1 from rfl, run_equalIn_agg w _ t xs ys (by rw [hfo]; exact hfs) k1, hfo]
    refine eqL_run (κ := κ) (H := st.H) (A := F.A) fs.toList 0 ks us us' r hk k3 (fun j u hj => ?_) (fun j u hj => ?_) (by simpa [cellsT] using hr)
    · have hlt : j < xs.size := by have := (List.getElem?_eq_some_iff.1 hj).1; omega
      have := c1 j u hj
      refine ⟨xs[j], by simp [hlt], by simpa [hlt] using this⟩
    · have hlt : j < ys.size := by have := (List.getElem?_eq_some_iff.1 hj).1; omega
      have := c2 j u hj
      refine ⟨ys[j], by simp [hlt], by simpa [hlt] using this⟩
  have hq : (eqGuard op t x y (a.eval x) (a.eval y)).run P w = .ok () w := by
    rw [e1, e2]; exact run_eqGuard_agg w op t x y xs ys k2
  refine ⟨.bool (r ^^ neg), w, ?_, .refl w, .pure _ _ (.b _)⟩
  rw [e1, e2] at hq
  simp only [execOp, hop, e1, e2, Sem.run_bind, hq, Result.andThen_ok]
  subst ho
  cases neg
  · simp only [Bool.false_eq_true, if_false, run_eql_struct, hrun, Result.andThen_ok, Sem.run_pure]; simp
  · simp only [if_true, run_neq_struct, hrun, Result.andThen_ok, Sem.run_pure]; simp
end
end Go.Proofs.YtloodkhdngipbaaT
