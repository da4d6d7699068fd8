/- Texts of this session's own, one behind the other: Kv0, Kv1, Kv2, Kw1, Kx1, Ki, Kx2, Kw2, Kt1, Kz2, Kz3, Kz4, Kz5, Kz7. -/
import Derived.Test.YtehmdblkkpdmoaaPk10
import Derived.Tactics2
import Derived.Laws.Externs
/- Floats: whether +0, whether the same. -/
namespace Go.Proofs.YtehmdblkkpdmoaaT
set_option linter.unusedVariables false
set_option linter.unusedSimpArgs false
open Go

theorem contract_vals {P : Program} {g : FuncId} {args : List TV} {u : TV} (ha : isAg u = false)
    (h : ∀ (w : World) (vs : List Value) (κ : Path → Value) (A : Nat → Nat → Prop), args.length = vs.length → (∀ (j : Nat) (u : TV) (v : Value), args[j]? = some u → vs[j]? = some v → RV w κ (fun _ => []) A u v) →
      ∃ v, isAgV v = false ∧ (∀ A', RR w A' u v) ∧ Calls P g vs.toArray w fun e w' => e = .returned v ∧ w' = w) :
    Contract P false g (args.map fun _ => .ro) args [u] [] := by
  intro w vs κ γ A hargs hγ hA
  obtain ⟨v, hv0, hv, hc⟩ := h w vs κ A hargs.len fun j x y hx hy => hargs.ro j x y (by simp [hx]) hx hy
  refine hc.mono fun e w' he => ?_
  obtain ⟨rfl, rfl⟩ := he
  have hcu : cellsT u = [u] := by cases u <;> first | rfl | cases ha
  have hcv : cellsV v = [v] := by cases v <;> first | rfl | cases hv0
  refine ⟨[v], fun q => if q = [(0, 0)] then v else κ q, γ, rfl, ⟨rfl, fun j a b h1 h2 => ?_, fun m c hm => ?_, fun m x hm => ?_⟩, fun m x hm => by simp at hm, fun b o q hb => ⟨hγ b o q hb, .inl ⟨q, hb⟩⟩, Chg.refl _ _⟩
  · cases j with
    | zero => cases h1; cases h2; exact ⟨by rw [ha, hv0], by rw [hcu, hcv]; rfl⟩
    | succ j => cases h1
  · rw [show ([u] : List TV).flatMap cellsT = [u] by rw [List.flatMap_cons, hcu]; rfl] at hm
    cases m with
    | zero => simp at hm; subst hm; simp; exact .pure _ _ _ (hv _)
    | succ m => simp at hm
  · rw [show ([v] : List Value).flatMap cellsV = [v] by rw [List.flatMap_cons, hcv]; rfl] at hm
    cases m with
    | zero => simp at hm; subst hm; simp
    | succ m => simp at hm

theorem canon_zero (x : Nat) : canon x = 0 ↔ x = 0 := by
  unfold canon
  split
  · rename_i h
    constructor
    · intro h2; simp at h2
    · rintro rfl; exfalso; revert h; decide
  · rfl
theorem bits_run (x : Nat) (W : World) : (callFunc 139 #[.float .f64 x]).run Try.prog W = .ok (.value (.int .u64 (x : Int))) W := by
  rw [run_callFunc_extern (fn := Try.f139) (e := Extern.MathFloatBits.float64bits) Try.func139 (by kernel_rfl) (by kernel_rfl) (by kernel_rfl) (by kernel_rfl)]
  rfl
theorem w121 (x : Nat) : Contract Try.prog false 121 [.ro] [.f x] [.b (decide (x = 0))] [] := by
  refine contract_vals (args := [.f x]) rfl fun w vs κ A hl hv => ?_
  obtain ⟨v, rfl⟩ : ∃ v, vs = [v] := by
    match vs, hl with
    | [v], _ => exact ⟨v, rfl⟩
  obtain ⟨y, rfl, hy⟩ := rv_f (hv 0 _ _ rfl rfl)
  subst hy
  refine ⟨.bool (decide (canon y = 0)), rfl, fun A' => .b _, ?_⟩
  have hf := bits_run y
  rw [show decide (canon y = 0) = decide (y = 0) from decide_eq_decide.2 (canon_zero y)]
  go_enter Try.func121, Try.ntmps121
  go_wp2
  go_ret
  exact ⟨by simp; by_cases h : y = 0 <;> simp [h], rfl⟩
theorem order_self (x : Nat) : FloatKind.f64.format.order x x = none ∨ FloatKind.f64.format.order x x = some .eq := by
  rcases h : FloatKind.f64.format.order x x with _ | o
  · exact .inl rfl
  · right
    revert h
    simp only [FloatKind.format, Ieee.Format.order]
    cases Ieee.double.read x <;> simp [Ieee.Datum.order] <;> exact fun h => h.symm
theorem canon_eq (a b : Nat) (hab : ¬ a = b) : canon a = canon b ↔ FloatKind.f64.format.order a a = none ∧ FloatKind.f64.format.order b b = none := by
  have hC : FloatKind.f64.format.order 9221120237041090561 9221120237041090561 = none := by decide
  unfold canon
  by_cases ha : FloatKind.f64.format.order a a = none <;> by_cases hb : FloatKind.f64.format.order b b = none <;> simp [ha, hb, hab]
  · rintro rfl; exact hb hC
  · rintro rfl; exact ha hC
theorem neq_run (t : TypeId) (a b : Nat) (W : World) : Sem.run Try.prog (binOp BinOp.neq t (Value.float FloatKind.f64 a) (Value.float FloatKind.f64 b)) W = .ok (.bool (FloatKind.f64.format.order a b != some .eq)) W := by
  simp [binOp, Op.floatCmp]
end Go.Proofs.YtehmdblkkpdmoaaT

/- Values: the same, right, nought. -/
namespace Go.Proofs.YtehmdblkkpdmoaaT
set_option linter.unusedVariables false
set_option linter.unusedSimpArgs false
open Go

/- spec.l1Plus -/
def c78 : TCode := (.seq (.ops [⟨(some 2), 4, .mv (.c (.b false)), none, []⟩])
  (.seq (.ops [⟨(some 3), 5, .mv (.t 0), none, []⟩, ⟨(some 4), 6, .bin .eql (.t 3) (.c (.f 0)), none, []⟩, ⟨(some 5), 7, .mv (.t 4), none, []⟩, ⟨(some 6), 8, .mv (.t 0), (some (5, true)), []⟩, ⟨(some 7), 9, .bin .quo (.c (.f 4607182418800017408)) (.t 6), (some (5, true)), []⟩, ⟨(some 8), 10, .bin .gtr (.t 7) (.c (.f 0)), (some (5, true)), []⟩, ⟨(some 9), 11, .pick (.t 5) (.t 8) (.c (.b false)), none, []⟩, ⟨(some 2), 4, .mv (.t 9), none, []⟩])
  .ret))
theorem k78 : compCode Try.prog Try.f78.ntmps Try.f78.body.get! = some c78 := by kernel_rfl
theorem r78 : resTmps Try.prog Try.f78.results.toList = some [.tmp 2] := by kernel_rfl
/- laws.sameFloat -/
def c58 : TCode := (.seq (.ops [⟨(some 4), 6, .mv (.c (.b false)), none, []⟩])
  (.seq (.seq (.ops [⟨(some 5), 7, .mv (.t 0), none, []⟩, ⟨(some 6), 8, .mv (.t 0), none, []⟩, ⟨(some 7), 9, .bin .neq (.t 5) (.t 6), none, []⟩, ⟨(some 8), 10, .mv (.t 7), none, []⟩, ⟨(some 9), 11, .mv (.t 1), (some (8, false)), []⟩, ⟨(some 10), 12, .mv (.t 1), (some (8, false)), []⟩, ⟨(some 11), 13, .bin .neq (.t 9) (.t 10), (some (8, false)), []⟩, ⟨(some 12), 14, .pick (.t 8) (.c (.b true)) (.t 11), none, []⟩])
  (.cond (.t 12)
  (.seq (.ops [⟨(some 13), 15, .mv (.t 0), none, []⟩, ⟨(some 14), 16, .mv (.t 0), none, []⟩, ⟨(some 15), 17, .bin .neq (.t 13) (.t 14), none, []⟩, ⟨(some 16), 18, .mv (.t 15), none, []⟩, ⟨(some 17), 19, .mv (.t 1), (some (16, true)), []⟩, ⟨(some 18), 20, .mv (.t 1), (some (16, true)), []⟩, ⟨(some 19), 21, .bin .neq (.t 17) (.t 18), (some (16, true)), []⟩, ⟨(some 20), 22, .pick (.t 16) (.t 19) (.c (.b false)), none, []⟩, ⟨(some 4), 6, .mv (.t 20), none, []⟩])
  .ret)
  .skip))
  (.seq (.seq (.ops [⟨(some 21), 23, .mv (.t 0), none, []⟩, ⟨(some 22), 24, .bin .eql (.t 21) (.c (.f 0)), none, []⟩, ⟨(some 23), 25, .mv (.t 22), none, []⟩, ⟨(some 24), 26, .mv (.t 1), (some (23, true)), []⟩, ⟨(some 25), 27, .bin .eql (.t 24) (.c (.f 0)), (some (23, true)), []⟩, ⟨(some 26), 28, .pick (.t 23) (.t 25) (.c (.b false)), none, []⟩])
  (.cond (.t 26)
  (.seq (.ops [⟨(some 27), 29, .mv (.t 0), none, []⟩, ⟨(some 28), 30, .bin .quo (.c (.f 4607182418800017408)) (.t 27), none, []⟩, ⟨(some 29), 31, .bin .gtr (.t 28) (.c (.f 0)), none, []⟩, ⟨(some 30), 32, .mv (.t 1), none, []⟩, ⟨(some 31), 33, .bin .quo (.c (.f 4607182418800017408)) (.t 30), none, []⟩, ⟨(some 32), 34, .bin .gtr (.t 31) (.c (.f 0)), none, []⟩, ⟨(some 33), 35, .eqs false false [.b] (.t 29) (.t 32), none, []⟩, ⟨(some 4), 6, .mv (.t 33), none, []⟩])
  .ret)
  .skip))
  (.seq (.ops [⟨(some 34), 36, .mv (.t 0), none, []⟩, ⟨(some 35), 37, .mv (.t 1), none, []⟩, ⟨(some 36), 38, .bin .eql (.t 34) (.t 35), none, []⟩, ⟨(some 4), 6, .mv (.t 36), none, []⟩])
  .ret))))
theorem k58 : compCode Try.prog Try.f58.ntmps Try.f58.body.get! = some c58 := by kernel_rfl
theorem r58 : resTmps Try.prog Try.f58.results.toList = some [.tmp 4] := by kernel_rfl
/- laws.toVal -/
def c83 : TCode := (.seq (.ops [⟨(some 1), 3, .box 4 (.t 0), none, []⟩, ⟨(some 2), 4, .box 4 (.c (.ag [(.i .i64 0), (.i .i64 0), (.f 0), (.f 0)])), none, []⟩])
  (.seq (.ops [⟨(some 3), 5, .box 4 (.c (.ag [(.i .i64 0), (.i .i64 0), (.f 0), (.f 0)])), none, []⟩])
  (.seq (.ops [⟨(some 4), 6, .faddr 0 1 (.t 1), none, []⟩, ⟨(some 5), 7, .load false 1 (.t 4), none, []⟩, ⟨(some 6), 8, .faddr 0 1 (.t 3), none, []⟩, ⟨none, 1002003, .store 1 (.t 6) (.t 5), none, []⟩])
  (.seq (.ops [⟨(some 7), 9, .faddr 1 1 (.t 1), none, []⟩, ⟨(some 8), 10, .load false 1 (.t 7), none, []⟩, ⟨(some 9), 11, .faddr 1 1 (.t 3), none, []⟩, ⟨none, 1003003, .store 1 (.t 9) (.t 8), none, []⟩])
  (.seq (.ops [⟨(some 10), 12, .faddr 2 1 (.t 1), none, []⟩, ⟨(some 11), 13, .load false 1 (.t 10), none, []⟩, ⟨(some 12), 14, .faddr 2 1 (.t 3), none, []⟩, ⟨none, 1004003, .store 1 (.t 12) (.t 11), none, []⟩])
  (.seq (.ops [⟨(some 13), 15, .faddr 3 1 (.t 1), none, []⟩, ⟨(some 14), 16, .load false 1 (.t 13), none, []⟩, ⟨(some 15), 17, .faddr 3 1 (.t 3), none, []⟩, ⟨none, 1005003, .store 1 (.t 15) (.t 14), none, []⟩])
  (.seq (.ops [⟨(some 16), 18, .load true 4 (.t 3), none, []⟩, ⟨none, 1006001, .store 4 (.t 2) (.t 16), none, []⟩])
  .ret)))))))
theorem k83 : compCode Try.prog Try.f83.ntmps Try.f83.body.get! = some c83 := by kernel_rfl
theorem r83 : resTmps Try.prog Try.f83.results.toList = some [.cell 2 true 4] := by kernel_rfl
/- laws.eqVal -/
def c18 : TCode := (.seq (.ops [⟨(some 2), 4, .box 4 (.t 0), none, []⟩, ⟨(some 3), 5, .box 4 (.t 1), none, []⟩, ⟨(some 4), 6, .mv (.c (.b false)), none, []⟩])
  (.seq (.seq (.ops [⟨(some 5), 7, .faddr 0 1 (.t 2), none, []⟩, ⟨(some 6), 8, .load false 1 (.t 5), none, []⟩, ⟨(some 7), 9, .faddr 0 1 (.t 3), none, []⟩, ⟨(some 8), 10, .load false 1 (.t 7), none, []⟩, ⟨(some 9), 11, .bin .neq (.t 6) (.t 8), none, []⟩])
  (.cond (.t 9)
  (.seq (.ops [⟨(some 4), 6, .mv (.c (.b false)), none, []⟩])
  .ret)
  .skip))
  (.seq (.seq (.ops [⟨(some 10), 12, .faddr 1 1 (.t 2), none, []⟩, ⟨(some 11), 13, .load false 1 (.t 10), none, []⟩, ⟨(some 12), 14, .faddr 1 1 (.t 3), none, []⟩, ⟨(some 13), 15, .load false 1 (.t 12), none, []⟩, ⟨(some 14), 16, .bin .neq (.t 11) (.t 13), none, []⟩])
  (.cond (.t 14)
  (.seq (.ops [⟨(some 4), 6, .mv (.c (.b false)), none, []⟩])
  .ret)
  .skip))
  (.seq (.seq (.ops [⟨(some 15), 17, .faddr 2 1 (.t 2), none, []⟩, ⟨(some 16), 18, .load false 1 (.t 15), none, []⟩, ⟨(some 17), 19, .faddr 2 1 (.t 3), none, []⟩, ⟨(some 18), 20, .load false 1 (.t 17), none, []⟩, ⟨(some 19), 21, .call 58 [((.t 16), 0), ((.t 18), 0)], none, []⟩, ⟨(some 20), 22, .un .not (.t 19), none, []⟩])
  (.cond (.t 20)
  (.seq (.ops [⟨(some 4), 6, .mv (.c (.b false)), none, []⟩])
  .ret)
  .skip))
  (.seq (.seq (.ops [⟨(some 21), 23, .faddr 3 1 (.t 2), none, []⟩, ⟨(some 22), 24, .load false 1 (.t 21), none, []⟩, ⟨(some 23), 25, .faddr 3 1 (.t 3), none, []⟩, ⟨(some 24), 26, .load false 1 (.t 23), none, []⟩, ⟨(some 25), 27, .call 58 [((.t 22), 0), ((.t 24), 0)], none, []⟩, ⟨(some 26), 28, .un .not (.t 25), none, []⟩])
  (.cond (.t 26)
  (.seq (.ops [⟨(some 4), 6, .mv (.c (.b false)), none, []⟩])
  .ret)
  .skip))
  (.seq (.ops [⟨(some 4), 6, .mv (.c (.b true)), none, []⟩])
  .ret))))))
theorem k18 : compCode Try.prog Try.f18.ntmps Try.f18.body.get! = some c18 := by kernel_rfl
theorem r18 : resTmps Try.prog Try.f18.results.toList = some [.tmp 4] := by kernel_rfl

theorem w78 (x : Nat) (hx : fOk x) : Contract Try.prog false 78 [.ro] [.f x] [.b (decide (x = 0))] [] := by
  refine mk_contract [] Try.func78 (c := Try.f78.body.get!) (by kernel_rfl) k78 r78 (of_decide_eq_true rfl) fun _ => ?_
  unfold c78; simp [feqz hx]
  by_cases h0 : x = 0
  · subst h0; simp [inv_zero, gt_infb]
  by_cases h1 : x = 9223372036854775808
  · subst h1; simp [inv_mzero, gt_minfb]
  simp [h0, h1]
theorem w58 (x y : Nat) (hx : fOk x) (hy : fOk y) : Contract Try.prog false 58 [.ro, .ro] [.f x, .f y] [.b (decide (x = y))] [] := by
  refine mk_contract [] Try.func58 (c := Try.f58.body.get!) (by kernel_rfl) k58 r58 (of_decide_eq_true rfl) fun _ => ?_
  unfold c58; simp [fne_self, feqb hx hy, fnez hx, fnez hy, feqz hx, feqz hy, inv_zero, inv_mzero, gt_infb, gt_minfb]
  by_cases nx : isN x
  · by_cases ny : isN y
    · simp [fne_self, feqb hx hy, fnez hx, fnez hy, feqz hx, feqz hy, inv_zero, inv_mzero, gt_infb, gt_minfb, nx, ny]; rw [fOk_nan hx nx, fOk_nan hy ny]
    · have : ¬ x = y := by rintro rfl; exact ny nx
      simp [fne_self, feqb hx hy, fnez hx, fnez hy, feqz hx, feqz hy, inv_zero, inv_mzero, gt_infb, gt_minfb, nx, ny, this]
  · by_cases ny : isN y
    · have : ¬ x = y := by rintro rfl; exact nx ny
      simp [fne_self, feqb hx hy, fnez hx, fnez hy, feqz hx, feqz hy, inv_zero, inv_mzero, gt_infb, gt_minfb, nx, ny, this]
    · simp [fne_self, feqb hx hy, fnez hx, fnez hy, feqz hx, feqz hy, inv_zero, inv_mzero, gt_infb, gt_minfb, nx, ny]
      by_cases hz : rg x = 0
      · by_cases hz' : rg y = 0
        · rcases (rg_zero hx).1 hz with rfl | rfl <;> rcases (rg_zero hy).1 hz' with rfl | rfl <;> simp [fne_self, feqb hx hy, fnez hx, fnez hy, feqz hx, feqz hy, inv_zero, inv_mzero, gt_infb, gt_minfb, nx, ny, hz, hz']
        · have hz2 := fun h => hz' ((rg_zero hy).2 h)
          have h1 : ¬ y = 0 := fun h => hz2 (.inl h)
          have h2 : ¬ y = 9223372036854775808 := fun h => hz2 (.inr h)
          rcases (rg_zero hx).1 hz with rfl | rfl <;> simp [fne_self, feqb hx hy, fnez hx, fnez hy, feqz hx, feqz hy, inv_zero, inv_mzero, gt_infb, gt_minfb, h1, h2, hz, hz']
          all_goals exact fun _ => nx
      · have hz2 := fun h => hz ((rg_zero hx).2 h)
        have h1 : ¬ x = 0 := fun h => hz2 (.inl h)
        have h2 : ¬ x = 9223372036854775808 := fun h => hz2 (.inr h)
        simp [fne_self, feqb hx hy, fnez hx, fnez hy, feqz hx, feqz hy, inv_zero, inv_mzero, gt_infb, gt_minfb, h1, h2, hz]
        exact fun _ => nx

/-- A value: kind, whole number, two floats. -/
abbrev ValP := Int × Int × Nat × Nat
def valOkF (v : ValP) : Prop := fOk v.2.2.1 ∧ fOk v.2.2.2
@[simp] def vT (v : ValP) : List TV := [.i .i64 v.1, .i .i64 v.2.1, .f v.2.2.1, .f v.2.2.2]
@[simp] theorem fzL_vT (v : ValP) : fzL (vT v) = vT v := rfl
@[simp] theorem fzLL_vT (l : List (ValP)) : fzLL (l.map vT) = l.map vT := fzLL_map fzL_vT l
@[simp] theorem noROLL_vT (l : List (ValP)) : noROLL (l.map vT) = true := noROLL_map (fun _ => rfl) l
@[simp] theorem noref_vT (l : List (ValP)) : (l.map vT).all (·.all noref) = true := noref_map (fun _ => rfl) l
@[simp] theorem srcT_vT (H : Hp) (z : Nat) (l : List (ValP)) : srcT H (.sl false z (l.map vT)) = some (z, l.map vT, H, []) := by simp only [srcT, noref_vT, if_true]
def valV (v : ValP) : TV := .ag [.i .i64 v.1, .i .i64 v.2.1, .f v.2.2.1, .f v.2.2.2]
theorem val_ext {a b : ValP} : a = b ↔ a.1 = b.1 ∧ a.2.1 = b.2.1 ∧ a.2.2.1 = b.2.2.1 ∧ a.2.2.2 = b.2.2.2 := by
  obtain ⟨a1, a2, a3, a4⟩ := a; obtain ⟨b1, b2, b3, b4⟩ := b; simp
theorem w83 (v : ValP) : Contract Try.prog false 83 [.ro] [valV v] [valV v] [] := by
  refine mk_contract [] Try.func83 (c := Try.f83.body.get!) (by kernel_rfl) k83 r83 (of_decide_eq_true rfl) fun _ => ?_
  unfold c83; unfold valV; simp
theorem w18 (a b : ValP) (ha : valOkF a) (hb : valOkF b) : Contract Try.prog false 18 [.ro, .ro] [valV a, valV b] [.b (decide (a = b))] [] := by
  refine mk_contract [] Try.func18 (c := Try.f18.body.get!) (by kernel_rfl) k18 r18 (of_decide_eq_true rfl) fun _ => ?_
  unfold c18; unfold valV; simp
  rw [show decide (a = b) = decide (a.1 = b.1 ∧ a.2.1 = b.2.1 ∧ a.2.2.1 = b.2.2.1 ∧ a.2.2.2 = b.2.2.2) from decide_eq_decide.2 val_ext]
  by_cases h1 : a.1 = b.1
  · by_cases h2 : a.2.1 = b.2.1
    · simp [h1, h2]
      by_cases h3 : a.2.2.1 = b.2.2.1
      · refine callW_ms [.ro, .ro] ?_
        simp
        refine callX_of ((w58 _ _ ha.1 hb.1).t h3) (by simp) ?_
        simp
        by_cases h4 : a.2.2.2 = b.2.2.2
        · refine callW_ms [.ro, .ro] ?_
          simp
          refine callX_of ((w58 _ _ ha.2 hb.2).t h4) (by simp) ?_
          simp [h1, h2, h3, h4]
        · refine callW_ms [.ro, .ro] ?_
          simp
          refine callX_of ((w58 _ _ ha.2 hb.2).f h4) (by simp) ?_
          simp [h4]
      · refine callW_ms [.ro, .ro] ?_
        simp
        refine callX_of ((w58 _ _ ha.1 hb.1).f h3) (by simp) ?_
        simp [h3]
    · simp [val_ext, h1, h2]
  · simp [val_ext, h1]
theorem W58r (x : Nat) : Contract Try.prog false 58 [.ro, .ro] [.f x, .f x] [.b true] [] := by
  refine mk_contract [] Try.func58 (c := Try.f58.body.get!) (by kernel_rfl) k58 r58 (of_decide_eq_true rfl) fun _ => ?_
  unfold c58; simp [fne_self]
  by_cases nx : isN x
  · simp [nx, fne_self]
  · cases hz : FloatKind.f64.format.order x 0 == some .eq
    · simp [nx, fne_self, hz, feq_self nx]
    · simp [nx, fne_self, hz, feq_self nx]
theorem W18r (a : ValP) : Contract Try.prog false 18 [.ro, .ro] [valV a, valV a] [.b true] [] := by
  refine mk_contract [] Try.func18 (c := Try.f18.body.get!) (by kernel_rfl) k18 r18 (of_decide_eq_true rfl) fun _ => ?_
  unfold c18; unfold valV; simp
  refine callW_ms [.ro, .ro] ?_
  simp
  refine callX_of (W58r a.2.2.1) (by simp) ?_
  simp
  refine callW_ms [.ro, .ro] ?_
  simp
  refine callX_of (W58r a.2.2.2) (by simp) ?_
  simp

end Go.Proofs.YtehmdblkkpdmoaaT

/- Values: right, nought, pairs. -/
namespace Go.Proofs.YtehmdblkkpdmoaaT
set_option linter.unusedVariables false
set_option linter.unusedSimpArgs false
open Go

/- spec.ValOk -/
def c35 : TCode := (.seq (.ops [⟨(some 1), 3, .box 4 (.t 0), none, []⟩, ⟨(some 2), 4, .mv (.c (.b false)), none, []⟩])
  (.seq (.seq (.ops [⟨(some 3), 5, .faddr 0 1 (.t 1), none, []⟩, ⟨(some 4), 6, .load false 1 (.t 3), none, []⟩])
  (.block 0 (.seq (.ops [⟨(some 6), 8, .bin .eql (.t 4) (.c (.i .i64 1)), none, []⟩, ⟨(some 5), 7, .mv (.t 6), none, []⟩])
  (.cond (.t 5)
  (.seq (.ops [⟨(some 7), 9, .faddr 2 1 (.t 1), none, []⟩, ⟨(some 8), 10, .load false 1 (.t 7), none, []⟩, ⟨(some 9), 11, .call 78 [((.t 8), 0)], none, []⟩, ⟨(some 10), 12, .mv (.t 9), none, []⟩, ⟨(some 11), 13, .faddr 3 1 (.t 1), (some (10, true)), []⟩, ⟨(some 12), 14, .load false 1 (.t 11), (some (10, true)), []⟩, ⟨(some 13), 15, .call 78 [((.t 12), 0)], (some (10, true)), []⟩, ⟨(some 14), 16, .pick (.t 10) (.t 13) (.c (.b false)), none, []⟩, ⟨(some 2), 4, .mv (.t 14), none, []⟩])
  .ret)
  (.seq (.ops [⟨(some 16), 18, .bin .eql (.t 4) (.c (.i .i64 2)), none, []⟩, ⟨(some 15), 17, .mv (.t 16), none, []⟩])
  (.cond (.t 15)
  (.seq (.ops [⟨(some 17), 19, .faddr 1 1 (.t 1), none, []⟩, ⟨(some 18), 20, .load false 1 (.t 17), none, []⟩, ⟨(some 19), 21, .bin .eql (.t 18) (.c (.i .i64 0)), none, []⟩, ⟨(some 20), 22, .mv (.t 19), none, []⟩, ⟨(some 21), 23, .faddr 3 1 (.t 1), (some (20, true)), []⟩, ⟨(some 22), 24, .load false 1 (.t 21), (some (20, true)), []⟩, ⟨(some 23), 25, .call 78 [((.t 22), 0)], (some (20, true)), []⟩, ⟨(some 24), 26, .pick (.t 20) (.t 23) (.c (.b false)), none, []⟩, ⟨(some 2), 4, .mv (.t 24), none, []⟩])
  .ret)
  (.seq (.ops [⟨(some 26), 28, .bin .eql (.t 4) (.c (.i .i64 3)), none, []⟩, ⟨(some 25), 27, .mv (.t 26), none, []⟩])
  (.cond (.t 25)
  (.seq (.ops [⟨(some 27), 29, .faddr 1 1 (.t 1), none, []⟩, ⟨(some 28), 30, .load false 1 (.t 27), none, []⟩, ⟨(some 29), 31, .bin .eql (.t 28) (.c (.i .i64 0)), none, []⟩, ⟨(some 2), 4, .mv (.t 29), none, []⟩])
  .ret)
  (.seq (.ops [⟨(some 31), 33, .bin .eql (.t 4) (.c (.i .i64 4)), none, []⟩, ⟨(some 30), 32, .mv (.t 31), none, []⟩])
  (.cond (.t 30)
  (.seq (.ops [⟨(some 32), 34, .faddr 1 1 (.t 1), none, []⟩, ⟨(some 33), 35, .load false 1 (.t 32), none, []⟩, ⟨(some 34), 36, .bin .eql (.t 33) (.c (.i .i64 0)), none, []⟩, ⟨(some 35), 37, .mv (.t 34), none, []⟩, ⟨(some 36), 38, .faddr 1 1 (.t 1), (some (35, false)), []⟩, ⟨(some 37), 39, .load false 1 (.t 36), (some (35, false)), []⟩, ⟨(some 38), 40, .bin .eql (.t 37) (.c (.i .i64 1)), (some (35, false)), []⟩, ⟨(some 39), 41, .pick (.t 35) (.c (.b true)) (.t 38), none, []⟩, ⟨(some 40), 42, .mv (.t 39), none, []⟩, ⟨(some 41), 43, .faddr 2 1 (.t 1), (some (40, true)), []⟩, ⟨(some 42), 44, .load false 1 (.t 41), (some (40, true)), []⟩, ⟨(some 43), 45, .call 78 [((.t 42), 0)], (some (40, true)), []⟩, ⟨(some 44), 46, .pick (.t 40) (.t 43) (.c (.b false)), none, []⟩, ⟨(some 45), 47, .mv (.t 44), none, []⟩, ⟨(some 46), 48, .faddr 3 1 (.t 1), (some (45, true)), []⟩, ⟨(some 47), 49, .load false 1 (.t 46), (some (45, true)), []⟩, ⟨(some 48), 50, .call 78 [((.t 47), 0)], (some (45, true)), []⟩, ⟨(some 49), 51, .pick (.t 45) (.t 48) (.c (.b false)), none, []⟩, ⟨(some 2), 4, .mv (.t 49), none, []⟩])
  .ret)
  .skip))))))))))
  (.seq (.ops [⟨(some 2), 4, .mv (.c (.b false)), none, []⟩])
  .ret)))
theorem k35 : compCode Try.prog Try.f35.ntmps Try.f35.body.get! = some c35 := by kernel_rfl
theorem r35 : resTmps Try.prog Try.f35.results.toList = some [.tmp 2] := by kernel_rfl
/- impl.ValOk -/
def c91 : TCode := (.seq (.ops [⟨(some 1), 3, .box 4 (.t 0), none, []⟩, ⟨(some 2), 4, .mv (.c (.b false)), none, []⟩])
  (.seq (.seq (.ops [⟨(some 3), 5, .faddr 0 1 (.t 1), none, []⟩, ⟨(some 4), 6, .load false 1 (.t 3), none, []⟩])
  (.block 0 (.seq (.ops [⟨(some 6), 8, .bin .eql (.t 4) (.c (.i .i64 1)), none, []⟩, ⟨(some 5), 7, .mv (.t 6), none, []⟩])
  (.cond (.t 5)
  (.seq (.ops [⟨(some 7), 9, .faddr 2 1 (.t 1), none, []⟩, ⟨(some 8), 10, .load false 1 (.t 7), none, []⟩, ⟨(some 9), 11, .call 121 [((.t 8), 0)], none, []⟩, ⟨(some 10), 12, .mv (.t 9), none, []⟩, ⟨(some 11), 13, .faddr 3 1 (.t 1), (some (10, true)), []⟩, ⟨(some 12), 14, .load false 1 (.t 11), (some (10, true)), []⟩, ⟨(some 13), 15, .call 121 [((.t 12), 0)], (some (10, true)), []⟩, ⟨(some 14), 16, .pick (.t 10) (.t 13) (.c (.b false)), none, []⟩, ⟨(some 2), 4, .mv (.t 14), none, []⟩])
  .ret)
  (.seq (.ops [⟨(some 16), 18, .bin .eql (.t 4) (.c (.i .i64 2)), none, []⟩, ⟨(some 15), 17, .mv (.t 16), none, []⟩])
  (.cond (.t 15)
  (.seq (.ops [⟨(some 17), 19, .faddr 1 1 (.t 1), none, []⟩, ⟨(some 18), 20, .load false 1 (.t 17), none, []⟩, ⟨(some 19), 21, .bin .eql (.t 18) (.c (.i .i64 0)), none, []⟩, ⟨(some 20), 22, .mv (.t 19), none, []⟩, ⟨(some 21), 23, .faddr 3 1 (.t 1), (some (20, true)), []⟩, ⟨(some 22), 24, .load false 1 (.t 21), (some (20, true)), []⟩, ⟨(some 23), 25, .call 121 [((.t 22), 0)], (some (20, true)), []⟩, ⟨(some 24), 26, .pick (.t 20) (.t 23) (.c (.b false)), none, []⟩, ⟨(some 2), 4, .mv (.t 24), none, []⟩])
  .ret)
  (.seq (.ops [⟨(some 26), 28, .bin .eql (.t 4) (.c (.i .i64 3)), none, []⟩, ⟨(some 25), 27, .mv (.t 26), none, []⟩])
  (.cond (.t 25)
  (.seq (.ops [⟨(some 27), 29, .faddr 1 1 (.t 1), none, []⟩, ⟨(some 28), 30, .load false 1 (.t 27), none, []⟩, ⟨(some 29), 31, .bin .eql (.t 28) (.c (.i .i64 0)), none, []⟩, ⟨(some 2), 4, .mv (.t 29), none, []⟩])
  .ret)
  (.seq (.ops [⟨(some 31), 33, .bin .eql (.t 4) (.c (.i .i64 4)), none, []⟩, ⟨(some 30), 32, .mv (.t 31), none, []⟩])
  (.cond (.t 30)
  (.seq (.ops [⟨(some 32), 34, .faddr 1 1 (.t 1), none, []⟩, ⟨(some 33), 35, .load false 1 (.t 32), none, []⟩, ⟨(some 34), 36, .call 87 [((.t 33), 0), ((.c (.i .i64 0)), 0), ((.c (.i .i64 1)), 0)], none, []⟩, ⟨(some 35), 37, .mv (.t 34), none, []⟩, ⟨(some 36), 38, .faddr 2 1 (.t 1), (some (35, true)), []⟩, ⟨(some 37), 39, .load false 1 (.t 36), (some (35, true)), []⟩, ⟨(some 38), 40, .call 121 [((.t 37), 0)], (some (35, true)), []⟩, ⟨(some 39), 41, .pick (.t 35) (.t 38) (.c (.b false)), none, []⟩, ⟨(some 40), 42, .mv (.t 39), none, []⟩, ⟨(some 41), 43, .faddr 3 1 (.t 1), (some (40, true)), []⟩, ⟨(some 42), 44, .load false 1 (.t 41), (some (40, true)), []⟩, ⟨(some 43), 45, .call 121 [((.t 42), 0)], (some (40, true)), []⟩, ⟨(some 44), 46, .pick (.t 40) (.t 43) (.c (.b false)), none, []⟩, ⟨(some 2), 4, .mv (.t 44), none, []⟩])
  .ret)
  .skip))))))))))
  (.seq (.ops [⟨(some 2), 4, .mv (.c (.b false)), none, []⟩])
  .ret)))
theorem k91 : compCode Try.prog Try.f91.ntmps Try.f91.body.get! = some c91 := by kernel_rfl
theorem r91 : resTmps Try.prog Try.f91.results.toList = some [.tmp 2] := by kernel_rfl
/- spec.ValZero -/
def c141 : TCode := (.seq (.ops [⟨(some 2), 4, .box 4 (.c (.ag [(.i .i64 0), (.i .i64 0), (.f 0), (.f 0)])), none, []⟩])
  (.seq (.seq (.ops [⟨(some 3), 5, .mv (.t 0), none, []⟩, ⟨(some 4), 6, .call 38 [((.t 3), 0), ((.c (.i .i64 1)), 0), ((.c (.i .i64 4)), 0)], none, []⟩, ⟨(some 5), 7, .un .not (.t 4), none, []⟩])
  (.cond (.t 5)
  (.seq (.ops [⟨(some 6), 8, .build [(.i .i64 0), (.i .i64 0), (.f 0), (.f 0)] [], none, []⟩, ⟨none, 1002001, .store 4 (.t 2) (.t 6), none, []⟩])
  .ret)
  .skip))
  (.seq (.ops [⟨(some 7), 9, .mv (.t 0), none, []⟩, ⟨(some 8), 10, .build [(.i .i64 0), (.i .i64 0), (.f 0), (.f 0)] [(0, 1, (.t 7))], none, []⟩, ⟨none, 1003002, .store 4 (.t 2) (.t 8), none, []⟩])
  .ret)))
theorem k141 : compCode Try.prog Try.f141.ntmps Try.f141.body.get! = some c141 := by kernel_rfl
theorem r141 : resTmps Try.prog Try.f141.results.toList = some [.cell 2 true 4] := by kernel_rfl

def ValOkP (v : ValP) : Prop := (v.1 = 1 ∧ v.2.2.1 = 0 ∧ v.2.2.2 = 0) ∨ (v.1 = 2 ∧ v.2.1 = 0 ∧ v.2.2.2 = 0) ∨ (v.1 = 3 ∧ v.2.1 = 0) ∨ (v.1 = 4 ∧ (v.2.1 = 0 ∨ v.2.1 = 1) ∧ v.2.2.1 = 0 ∧ v.2.2.2 = 0)
instance (v : ValP) : Decidable (ValOkP v) := by unfold ValOkP; infer_instance
theorem w35 (v : ValP) (hv : valOkF v) : Contract Try.prog false 35 [.ro] [valV v] [.b (decide (ValOkP v))] [] := by
  refine mk_contract [] Try.func35 (c := Try.f35.body.get!) (by kernel_rfl) k35 r35 (of_decide_eq_true rfl) fun _ => ?_
  unfold c35; unfold valV ValOkP; simp
  by_cases k1 : v.1 = 1
  · simp [k1]
    by_cases h1 : v.2.2.1 = 0
    · refine callW_ms [.ro] ?_
      simp
      refine callX_of ((w78 _ hv.1).t h1) (by simp) ?_
      simp
      refine callW_ms [.ro] ?_
      simp
      refine callX_of (w78 _ hv.2) (by simp) ?_
      simp [h1]
    · refine callW_ms [.ro] ?_
      simp
      refine callX_of ((w78 _ hv.1).f h1) (by simp) ?_
      simp [h1]
  by_cases k2 : v.1 = 2
  · simp [k2]
    by_cases h1 : v.2.1 = 0
    · simp [h1]
      refine callW_ms [.ro] ?_
      simp
      refine callX_of (w78 _ hv.2) (by simp) ?_
      simp [h1]
    · simp [h1]
  by_cases k3 : v.1 = 3
  · simp [k3]
  by_cases k4 : v.1 = 4
  · simp [k4]
    by_cases hi : v.2.1 = 0
    · simp [hi]
      by_cases h1 : v.2.2.1 = 0
      · refine callW_ms [.ro] ?_
        simp
        refine callX_of ((w78 _ hv.1).t h1) (by simp) ?_
        simp
        refine callW_ms [.ro] ?_
        simp
        refine callX_of (w78 _ hv.2) (by simp) ?_
        simp [h1]
      · refine callW_ms [.ro] ?_
        simp
        refine callX_of ((w78 _ hv.1).f h1) (by simp) ?_
        simp [h1]
    · by_cases hi1 : v.2.1 = 1
      · simp [hi, hi1]
        by_cases h1 : v.2.2.1 = 0
        · refine callW_ms [.ro] ?_
          simp
          refine callX_of ((w78 _ hv.1).t h1) (by simp) ?_
          simp
          refine callW_ms [.ro] ?_
          simp
          refine callX_of (w78 _ hv.2) (by simp) ?_
          simp [h1]
        · refine callW_ms [.ro] ?_
          simp
          refine callX_of ((w78 _ hv.1).f h1) (by simp) ?_
          simp [h1]
      · simp [hi, hi1]
  simp [k1, k2, k3, k4]
theorem w91 (v : ValP) : Contract Try.prog false 91 [.ro] [valV v] [.b (decide (ValOkP v))] [] := by
  refine mk_contract [] Try.func91 (c := Try.f91.body.get!) (by kernel_rfl) k91 r91 (of_decide_eq_true rfl) fun _ => ?_
  unfold c91; unfold valV ValOkP; simp
  by_cases k1 : v.1 = 1
  · simp [k1]
    by_cases h1 : v.2.2.1 = 0
    · refine callW_ms [.ro] ?_
      simp
      refine callX_of ((w121 _).t h1) (by simp) ?_
      simp
      refine callW_ms [.ro] ?_
      simp
      refine callX_of (w121 v.2.2.2) (by simp) ?_
      simp [h1]
    · refine callW_ms [.ro] ?_
      simp
      refine callX_of ((w121 _).f h1) (by simp) ?_
      simp [h1]
  by_cases k2 : v.1 = 2
  · simp [k2]
    by_cases h1 : v.2.1 = 0
    · simp [h1]
      refine callW_ms [.ro] ?_
      simp
      refine callX_of (w121 v.2.2.2) (by simp) ?_
      simp [h1]
    · simp [h1]
  by_cases k3 : v.1 = 3
  · simp [k3]
  by_cases k4 : v.1 = 4
  · simp [k4]
    by_cases hi : 0 ≤ v.2.1 ∧ v.2.1 ≤ 1
    · have hi2 : v.2.1 = 0 ∨ v.2.1 = 1 := by omega
      refine callW_ms [.ro, .ro, .ro] ?_
      simp
      refine callX_of ((w87 v.2.1 0 1).t hi) (by simp) ?_
      simp
      by_cases h1 : v.2.2.1 = 0
      · refine callW_ms [.ro] ?_
        simp
        refine callX_of ((w121 _).t h1) (by simp) ?_
        simp
        refine callW_ms [.ro] ?_
        simp
        refine callX_of (w121 v.2.2.2) (by simp) ?_
        simp [h1, hi2]
      · refine callW_ms [.ro] ?_
        simp
        refine callX_of ((w121 _).f h1) (by simp) ?_
        simp [h1]
    · have hi2 : ¬ (v.2.1 = 0 ∨ v.2.1 = 1) := by omega
      refine callW_ms [.ro, .ro, .ro] ?_
      simp
      refine callX_of ((w87 v.2.1 0 1).f hi) (by simp) ?_
      simp [hi2]
  simp [k1, k2, k3, k4]
def zeroV (k : Int) : ValP := if 1 ≤ k ∧ k ≤ 4 then (k, 0, 0, 0) else (0, 0, 0, 0)
theorem zeroV_ok (k : Int) : valOkF (zeroV k) := by unfold zeroV; split <;> exact ⟨fOk_zero, fOk_zero⟩
theorem w141 (k : Int) : Contract Try.prog false 141 [.ro] [.i .i64 k] [valV (zeroV k)] [] := by
  refine mk_contract [] Try.func141 (c := Try.f141.body.get!) (by kernel_rfl) k141 r141 (of_decide_eq_true rfl) fun _ => ?_
  unfold c141; unfold valV zeroV; simp
  by_cases h : 1 ≤ k ∧ k ≤ 4
  · refine callW_ms [.ro, .ro, .ro] ?_
    simp
    refine callX_of ((w38 k 1 4).t h) (by simp) ?_
    simp [h]
  · refine callW_ms [.ro, .ro, .ro] ?_
    simp
    refine callX_of ((w38 k 1 4).f h) (by simp) ?_
    simp [h]
def pairV (a b : ValP) : ValP × Bool := if ValOkP a ∧ ValOkP b ∧ a.1 = 2 ∧ b.1 = 2 then ((3, 0, a.2.2.1, b.2.2.1), true) else ((0, 0, 0, 0), false)
theorem pairV_ok {a b : ValP} (ha : valOkF a) (hb : valOkF b) : valOkF (pairV a b).1 := by
  unfold pairV; split
  · exact ⟨ha.1, hb.1⟩
  · exact ⟨fOk_zero, fOk_zero⟩
end Go.Proofs.YtehmdblkkpdmoaaT

/- Rows of values. -/
namespace Go.Proofs.YtehmdblkkpdmoaaT
set_option linter.unusedVariables false
set_option linter.unusedSimpArgs false
open Go

/- laws.toValS -/
def c42 : TCode := (.seq (.ops [⟨(some 2), 4, .mv (.c (.sl true 4 [])), none, []⟩])
  (.seq (.ops [⟨(some 5), 7, .mv (.t 0), none, []⟩, ⟨(some 6), 8, .len false (.t 5), none, []⟩, ⟨(some 7), 9, .mkslice 4 32 [(.i .i64 0), (.i .i64 0), (.f 0), (.f 0)] (.t 6) (.t 6), none, []⟩, ⟨(some 3), 5, .mv (.t 7), none, []⟩])
  (.seq (.seq (.ops [⟨(some 4), 6, .mv (.c (.i .i64 0)), none, []⟩])
  (.block 0 (.loop (.seq (.seq (.ops [⟨(some 8), 10, .mv (.t 4), none, []⟩, ⟨(some 9), 11, .mv (.t 0), none, []⟩, ⟨(some 10), 12, .len false (.t 9), none, []⟩, ⟨(some 11), 13, .bin .lss (.t 8) (.t 10), none, []⟩])
  (.cond (.t 11)
  .skip
  (.exit 0)))
  (.seq (.block 1 (.ops [⟨(some 14), 16, .mv (.t 3), none, []⟩, ⟨(some 15), 17, .mv (.t 4), none, []⟩, ⟨(some 16), 18, .mv (.t 0), none, []⟩, ⟨(some 17), 19, .mv (.t 4), none, []⟩, ⟨(some 18), 20, .iaddr 4 (.t 16) (.t 17), none, []⟩, ⟨(some 19), 21, .load true 4 (.t 18), none, []⟩, ⟨(some 20), 22, .call 83 [((.t 19), 0)], none, []⟩, ⟨(some 21), 23, .iaddr 4 (.t 14) (.t 15), none, []⟩, ⟨none, 1005008, .store 4 (.t 21) (.t 20), none, []⟩]))
  (.ops [⟨(some 12), 14, .mv (.t 4), none, []⟩, ⟨(some 13), 15, .bin .add (.t 12) (.c (.i .i64 1)), none, []⟩, ⟨(some 4), 6, .mv (.t 13), none, []⟩]))))))
  (.seq (.ops [⟨(some 22), 24, .mv (.t 3), none, []⟩, ⟨(some 2), 4, .mv (.t 22), none, []⟩])
  .ret))))
theorem k42 : compCode Try.prog Try.f42.ntmps Try.f42.body.get! = some c42 := by kernel_rfl
theorem r42 : resTmps Try.prog Try.f42.results.toList = some [.tmp 2] := by kernel_rfl
/- laws.szValS -/
def c32 : TCode := (.seq (.ops [⟨(some 4), 6, .mv (.c (.i .i64 0)), none, []⟩])
  (.seq (.ops [⟨(some 5), 7, .mv (.t 1), none, []⟩, ⟨(some 6), 8, .mv (.t 0), none, []⟩, ⟨(some 7), 9, .len false (.t 6), none, []⟩, ⟨(some 8), 10, .bin .sub (.t 5) (.t 7), none, []⟩, ⟨(some 1), 3, .mv (.t 8), none, []⟩])
  (.seq (.seq (.ops [⟨(some 9), 11, .mv (.t 1), none, []⟩, ⟨(some 10), 12, .bin .lss (.t 9) (.c (.i .i64 0)), none, []⟩])
  (.cond (.t 10)
  (.seq (.ops [⟨(some 4), 6, .mv (.c (.i .i64 (-1))), none, []⟩])
  .ret)
  .skip))
  (.seq (.ops [⟨(some 11), 13, .mv (.t 1), none, []⟩, ⟨(some 4), 6, .mv (.t 11), none, []⟩])
  .ret))))
theorem k32 : compCode Try.prog Try.f32.ntmps Try.f32.body.get! = some c32 := by kernel_rfl
theorem r32 : resTmps Try.prog Try.f32.results.toList = some [.tmp 4] := by kernel_rfl
/- laws.eqValS -/
def c52 : TCode := (.seq (.ops [⟨(some 4), 6, .mv (.c (.b false)), none, []⟩])
  (.seq (.seq (.ops [⟨(some 6), 8, .mv (.t 0), none, []⟩, ⟨(some 7), 9, .len false (.t 6), none, []⟩, ⟨(some 8), 10, .mv (.t 1), none, []⟩, ⟨(some 9), 11, .len false (.t 8), none, []⟩, ⟨(some 10), 12, .bin .neq (.t 7) (.t 9), none, []⟩])
  (.cond (.t 10)
  (.seq (.ops [⟨(some 4), 6, .mv (.c (.b false)), none, []⟩])
  .ret)
  .skip))
  (.seq (.seq (.ops [⟨(some 5), 7, .mv (.c (.i .i64 0)), none, []⟩])
  (.block 0 (.loop (.seq (.seq (.ops [⟨(some 11), 13, .mv (.t 5), none, []⟩, ⟨(some 12), 14, .mv (.t 0), none, []⟩, ⟨(some 13), 15, .len false (.t 12), none, []⟩, ⟨(some 14), 16, .bin .lss (.t 11) (.t 13), none, []⟩])
  (.cond (.t 14)
  .skip
  (.exit 0)))
  (.seq (.block 1 (.seq (.draw [⟨(some 17), 19, .mv (.t 0), none, []⟩, ⟨(some 18), 20, .mv (.t 5), none, []⟩, ⟨(some 19), 21, .iaddr 4 (.t 17) (.t 18), none, []⟩, ⟨(some 20), 22, .load true 4 (.t 19), none, []⟩, ⟨(some 21), 23, .mv (.t 1), none, []⟩, ⟨(some 22), 24, .mv (.t 5), none, []⟩, ⟨(some 23), 25, .iaddr 4 (.t 21) (.t 22), none, []⟩, ⟨(some 24), 26, .load true 4 (.t 23), none, []⟩, ⟨(some 25), 27, .call 18 [((.t 20), 0), ((.t 24), 0)], none, []⟩, ⟨(some 26), 28, .un .not (.t 25), none, []⟩])
  (.cond (.t 26)
  (.seq (.ops [⟨(some 4), 6, .mv (.c (.b false)), none, []⟩])
  .ret)
  .skip)))
  (.ops [⟨(some 15), 17, .mv (.t 5), none, []⟩, ⟨(some 16), 18, .bin .add (.t 15) (.c (.i .i64 1)), none, []⟩, ⟨(some 5), 7, .mv (.t 16), none, []⟩]))))))
  (.seq (.ops [⟨(some 4), 6, .mv (.c (.b true)), none, []⟩])
  .ret))))
theorem k52 : compCode Try.prog Try.f52.ntmps Try.f52.body.get! = some c52 := by kernel_rfl
theorem r52 : resTmps Try.prog Try.f52.results.toList = some [.tmp 4] := by kernel_rfl

theorem w42 (l : List ValP) (hl : l.length ≤ 2^40) : Contract Try.prog false 42 [.ro] [.sl false 4 (l.map vT)] [.sl true 4 (l.map vT)] [] := by
  refine mk_contract [] Try.func42 (c := Try.f42.body.get!) (by kernel_rfl) k42 r42 (of_decide_eq_true rfl) fun _ => ?_
  unfold c42; simp
  refine ⟨by omega, ?_⟩
  refine twp_for l.length (fun j s => s.t 0 = .sl false 4 (l.map vT) ∧ s.t 3 = .rf [(9, 0)] 0 l.length ∧ s.t 4 = .i .i64 j ∧ s.H = lk [(1, []), (9, [.sl true 4 ((l.map vT).take j ++ List.replicate (l.length - j) [.i .i64 0, .i .i64 0, .f 0, .f 0])])]) [] (by simp) ?_ ?_
  · simp
  · rintro j s hj ⟨q0, q3, q4, qH⟩
    rw [nf_of qH]
    simp [q0, q3, q4]
    refine ⟨fun hlt => ?_, fun hge => ?_⟩
    · have hw : IntKind.i64.wrap (j + 1) = j + 1 := wrap_id (by omega) (by omega)
      obtain ⟨x, hx⟩ := get_some hlt
      have hmin : min j l.length = j := by omega
      simp [hx, hw, q0, q3, q4]
      refine callW_ms [.ro] ?_
      simp [valV]
      refine callX_of (w83 x) (by simp) ?_
      simp [valV, hw, q0, q3, q4, rep_at hlt, mapsnoc hx, hmin]
      omega
    · obtain rfl : j = l.length := by omega
      simp [q0, q3, q4]
theorem w32 (l : List ValP) (n : Int) (hl : l.length < 2^63) (hn : n < 2^62) (hn0 : 0 ≤ n) : Contract Try.prog false 32 [.ro, .ro] [.sl false 4 (l.map vT), .i .i64 n] [.i .i64 (szF n l.length)] [] := by
  refine mk_contract [] Try.func32 (c := Try.f32.body.get!) (by kernel_rfl) k32 r32 (of_decide_eq_true rfl) fun _ => ?_
  have hw : IntKind.i64.wrap (n - l.length) = n - l.length := wrap_id (by omega) (by omega)
  unfold c32; unfold szF; simp [hw]
  omega
theorem w52 (a : List ValP) (ha : a.length ≤ 2^40) : Contract Try.prog false 52 [.ro, .ro] [.sl false 4 (a.map vT), .sl false 4 (a.map vT)] [.b true] [] := by
  refine mk_contract [] Try.func52 (c := Try.f52.body.get!) (by kernel_rfl) k52 r52 (of_decide_eq_true rfl) fun _ => ?_
  unfold c52; simp
  refine twp_for a.length (fun j s => s.t 0 = .sl false 4 (a.map vT) ∧ s.t 1 = .sl false 4 (a.map vT) ∧ s.t 5 = .i .i64 j ∧ s.H = lk [(1, [])]) [] (by simp) ?_ ?_
  · simp
  · rintro j s hj ⟨q0, q1, q5, qH⟩
    rw [nf_of qH]
    simp [q0, q1, q5]
    intro hlt
    have hw : IntKind.i64.wrap (j + 1) = j + 1 := wrap_id (by omega) (by omega)
    obtain ⟨x, hx⟩ := get_some hlt
    simp [hx, hw, q0, q1, q5]
    refine callW_ms [.ro, .ro] ?_
    simp
    refine callX_of (W18r x) (by simp [valV]) ?_
    simp [hw, q0, q1, q5]
    exact hlt
def mkV (k : Int) : ValP := (k, k + 1, flI (k + 2), flI (k + 3))
end Go.Proofs.YtehmdblkkpdmoaaT

/- Worlds: rows of tables; sizes, copies, sameness. -/
namespace Go.Proofs.YtehmdblkkpdmoaaT
set_option linter.unusedVariables false
set_option linter.unusedSimpArgs false
open Go

/- laws.szEntS -/
def c112 : TCode := (.seq (.ops [⟨(some 4), 6, .mv (.c (.i .i64 0)), none, []⟩])
  (.seq (.ops [⟨(some 5), 7, .mv (.t 1), none, []⟩, ⟨(some 6), 8, .mv (.t 0), none, []⟩, ⟨(some 7), 9, .len false (.t 6), none, []⟩, ⟨(some 8), 10, .bin .sub (.t 5) (.t 7), none, []⟩, ⟨(some 1), 3, .mv (.t 8), none, []⟩])
  (.seq (.seq (.ops [⟨(some 9), 11, .mv (.t 1), none, []⟩, ⟨(some 10), 12, .bin .lss (.t 9) (.c (.i .i64 0)), none, []⟩])
  (.cond (.t 10)
  (.seq (.ops [⟨(some 4), 6, .mv (.c (.i .i64 (-1))), none, []⟩])
  .ret)
  .skip))
  (.seq (.ops [⟨(some 11), 13, .mv (.t 1), none, []⟩, ⟨(some 4), 6, .mv (.t 11), none, []⟩])
  .ret))))
theorem k112 : compCode Try.prog Try.f112.ntmps Try.f112.body.get! = some c112 := by kernel_rfl
theorem r112 : resTmps Try.prog Try.f112.results.toList = some [.tmp 4] := by kernel_rfl
/- laws.toEntS -/
def c116 : TCode := (.seq (.ops [⟨(some 2), 4, .mv (.c (.sl true 2 [])), none, []⟩])
  (.seq (.ops [⟨(some 5), 7, .mv (.t 0), none, []⟩, ⟨(some 6), 8, .len false (.t 5), none, []⟩, ⟨(some 7), 9, .mkslice 2 16 [(.i .i64 0), (.i .i64 0)] (.t 6) (.t 6), none, []⟩, ⟨(some 3), 5, .mv (.t 7), none, []⟩])
  (.seq (.seq (.ops [⟨(some 4), 6, .mv (.c (.i .i64 0)), none, []⟩])
  (.block 0 (.loop (.seq (.seq (.ops [⟨(some 8), 10, .mv (.t 4), none, []⟩, ⟨(some 9), 11, .mv (.t 0), none, []⟩, ⟨(some 10), 12, .len false (.t 9), none, []⟩, ⟨(some 11), 13, .bin .lss (.t 8) (.t 10), none, []⟩])
  (.cond (.t 11)
  .skip
  (.exit 0)))
  (.seq (.block 1 (.ops [⟨(some 14), 16, .mv (.t 3), none, []⟩, ⟨(some 15), 17, .mv (.t 4), none, []⟩, ⟨(some 16), 18, .mv (.t 0), none, []⟩, ⟨(some 17), 19, .mv (.t 4), none, []⟩, ⟨(some 18), 20, .iaddr 2 (.t 16) (.t 17), none, []⟩, ⟨(some 19), 21, .load true 2 (.t 18), none, []⟩, ⟨(some 20), 22, .call 16 [((.t 19), 0)], none, []⟩, ⟨(some 21), 23, .iaddr 2 (.t 14) (.t 15), none, []⟩, ⟨none, 1005008, .store 2 (.t 21) (.t 20), none, []⟩]))
  (.ops [⟨(some 12), 14, .mv (.t 4), none, []⟩, ⟨(some 13), 15, .bin .add (.t 12) (.c (.i .i64 1)), none, []⟩, ⟨(some 4), 6, .mv (.t 13), none, []⟩]))))))
  (.seq (.ops [⟨(some 22), 24, .mv (.t 3), none, []⟩, ⟨(some 2), 4, .mv (.t 22), none, []⟩])
  .ret))))
theorem k116 : compCode Try.prog Try.f116.ntmps Try.f116.body.get! = some c116 := by kernel_rfl
theorem r116 : resTmps Try.prog Try.f116.results.toList = some [.tmp 2] := by kernel_rfl
/- laws.szValSS -/
def c113 : TCode := (.seq (.ops [⟨(some 4), 6, .mv (.c (.i .i64 0)), none, []⟩])
  (.seq (.ops [⟨(some 6), 8, .mv (.t 1), none, []⟩, ⟨(some 7), 9, .mv (.t 0), none, []⟩, ⟨(some 8), 10, .len false (.t 7), none, []⟩, ⟨(some 9), 11, .bin .sub (.t 6) (.t 8), none, []⟩, ⟨(some 1), 3, .mv (.t 9), none, []⟩])
  (.seq (.seq (.ops [⟨(some 10), 12, .mv (.t 1), none, []⟩, ⟨(some 11), 13, .bin .lss (.t 10) (.c (.i .i64 0)), none, []⟩])
  (.cond (.t 11)
  (.seq (.ops [⟨(some 4), 6, .mv (.c (.i .i64 (-1))), none, []⟩])
  .ret)
  .skip))
  (.seq (.seq (.ops [⟨(some 5), 7, .mv (.c (.i .i64 0)), none, []⟩])
  (.block 0 (.loop (.seq (.seq (.ops [⟨(some 12), 14, .mv (.t 5), none, []⟩, ⟨(some 13), 15, .mv (.t 0), none, []⟩, ⟨(some 14), 16, .len false (.t 13), none, []⟩, ⟨(some 15), 17, .bin .lss (.t 12) (.t 14), none, []⟩])
  (.cond (.t 15)
  .skip
  (.exit 0)))
  (.seq (.block 1 (.seq (.ops [⟨(some 18), 20, .mv (.t 0), none, []⟩, ⟨(some 19), 21, .mv (.t 5), none, []⟩, ⟨(some 20), 22, .iaddr 1 (.t 18) (.t 19), none, []⟩, ⟨(some 21), 23, .load false 1 (.t 20), none, []⟩, ⟨(some 22), 24, .mv (.t 1), none, []⟩, ⟨(some 23), 25, .call 32 [((.t 21), 0), ((.t 22), 0)], none, []⟩, ⟨(some 1), 3, .mv (.t 23), none, []⟩])
  (.seq (.ops [⟨(some 24), 26, .mv (.t 1), none, []⟩, ⟨(some 25), 27, .bin .lss (.t 24) (.c (.i .i64 0)), none, []⟩])
  (.cond (.t 25)
  (.seq (.ops [⟨(some 4), 6, .mv (.c (.i .i64 (-1))), none, []⟩])
  .ret)
  .skip))))
  (.ops [⟨(some 16), 18, .mv (.t 5), none, []⟩, ⟨(some 17), 19, .bin .add (.t 16) (.c (.i .i64 1)), none, []⟩, ⟨(some 5), 7, .mv (.t 17), none, []⟩]))))))
  (.seq (.ops [⟨(some 26), 28, .mv (.t 1), none, []⟩, ⟨(some 4), 6, .mv (.t 26), none, []⟩])
  .ret)))))
theorem k113 : compCode Try.prog Try.f113.ntmps Try.f113.body.get! = some c113 := by kernel_rfl
theorem r113 : resTmps Try.prog Try.f113.results.toList = some [.tmp 4] := by kernel_rfl
/- laws.toValSS -/
def c117 : TCode := (.seq (.ops [⟨(some 2), 4, .mv (.c (.sl true 1 [])), none, []⟩])
  (.seq (.ops [⟨(some 5), 7, .mv (.t 0), none, []⟩, ⟨(some 6), 8, .len false (.t 5), none, []⟩, ⟨(some 7), 9, .mkslice 1 24 [(.sl true 4 [])] (.t 6) (.t 6), none, []⟩, ⟨(some 3), 5, .mv (.t 7), none, []⟩])
  (.seq (.seq (.ops [⟨(some 4), 6, .mv (.c (.i .i64 0)), none, []⟩])
  (.block 0 (.loop (.seq (.seq (.ops [⟨(some 8), 10, .mv (.t 4), none, []⟩, ⟨(some 9), 11, .mv (.t 0), none, []⟩, ⟨(some 10), 12, .len false (.t 9), none, []⟩, ⟨(some 11), 13, .bin .lss (.t 8) (.t 10), none, []⟩])
  (.cond (.t 11)
  .skip
  (.exit 0)))
  (.seq (.block 1 (.ops [⟨(some 14), 16, .mv (.t 3), none, []⟩, ⟨(some 15), 17, .mv (.t 4), none, []⟩, ⟨(some 16), 18, .mv (.t 0), none, []⟩, ⟨(some 17), 19, .mv (.t 4), none, []⟩, ⟨(some 18), 20, .iaddr 1 (.t 16) (.t 17), none, []⟩, ⟨(some 19), 21, .load false 1 (.t 18), none, []⟩, ⟨(some 20), 22, .call 42 [((.t 19), 0)], none, []⟩, ⟨(some 21), 23, .iaddr 1 (.t 14) (.t 15), none, []⟩, ⟨none, 1005008, .store 1 (.t 21) (.t 20), none, []⟩]))
  (.ops [⟨(some 12), 14, .mv (.t 4), none, []⟩, ⟨(some 13), 15, .bin .add (.t 12) (.c (.i .i64 1)), none, []⟩, ⟨(some 4), 6, .mv (.t 13), none, []⟩]))))))
  (.seq (.ops [⟨(some 22), 24, .mv (.t 3), none, []⟩, ⟨(some 2), 4, .mv (.t 22), none, []⟩])
  .ret))))
theorem k117 : compCode Try.prog Try.f117.ntmps Try.f117.body.get! = some c117 := by kernel_rfl
theorem r117 : resTmps Try.prog Try.f117.results.toList = some [.tmp 2] := by kernel_rfl
/- laws.eqValSS -/
def c123 : TCode := (.seq (.ops [⟨(some 4), 6, .mv (.c (.b false)), none, []⟩])
  (.seq (.seq (.ops [⟨(some 6), 8, .mv (.t 0), none, []⟩, ⟨(some 7), 9, .len false (.t 6), none, []⟩, ⟨(some 8), 10, .mv (.t 1), none, []⟩, ⟨(some 9), 11, .len false (.t 8), none, []⟩, ⟨(some 10), 12, .bin .neq (.t 7) (.t 9), none, []⟩])
  (.cond (.t 10)
  (.seq (.ops [⟨(some 4), 6, .mv (.c (.b false)), none, []⟩])
  .ret)
  .skip))
  (.seq (.seq (.ops [⟨(some 5), 7, .mv (.c (.i .i64 0)), none, []⟩])
  (.block 0 (.loop (.seq (.seq (.ops [⟨(some 11), 13, .mv (.t 5), none, []⟩, ⟨(some 12), 14, .mv (.t 0), none, []⟩, ⟨(some 13), 15, .len false (.t 12), none, []⟩, ⟨(some 14), 16, .bin .lss (.t 11) (.t 13), none, []⟩])
  (.cond (.t 14)
  .skip
  (.exit 0)))
  (.seq (.block 1 (.seq (.draw [⟨(some 17), 19, .mv (.t 0), none, []⟩, ⟨(some 18), 20, .mv (.t 5), none, []⟩, ⟨(some 19), 21, .iaddr 1 (.t 17) (.t 18), none, []⟩, ⟨(some 20), 22, .load false 1 (.t 19), none, []⟩, ⟨(some 21), 23, .mv (.t 1), none, []⟩, ⟨(some 22), 24, .mv (.t 5), none, []⟩, ⟨(some 23), 25, .iaddr 1 (.t 21) (.t 22), none, []⟩, ⟨(some 24), 26, .load false 1 (.t 23), none, []⟩, ⟨(some 25), 27, .call 52 [((.t 20), 0), ((.t 24), 0)], none, []⟩, ⟨(some 26), 28, .un .not (.t 25), none, []⟩])
  (.cond (.t 26)
  (.seq (.ops [⟨(some 4), 6, .mv (.c (.b false)), none, []⟩])
  .ret)
  .skip)))
  (.ops [⟨(some 15), 17, .mv (.t 5), none, []⟩, ⟨(some 16), 18, .bin .add (.t 15) (.c (.i .i64 1)), none, []⟩, ⟨(some 5), 7, .mv (.t 16), none, []⟩]))))))
  (.seq (.ops [⟨(some 4), 6, .mv (.c (.b true)), none, []⟩])
  .ret))))
theorem k123 : compCode Try.prog Try.f123.ntmps Try.f123.body.get! = some c123 := by kernel_rfl
theorem r123 : resTmps Try.prog Try.f123.results.toList = some [.tmp 4] := by kernel_rfl
/- laws.szTable -/
def c76 : TCode := (.seq (.ops [⟨(some 2), 4, .box 3 (.t 0), none, []⟩, ⟨(some 4), 6, .mv (.c (.i .i64 0)), none, []⟩])
  (.seq (.ops [⟨(some 5), 7, .faddr 0 1 (.t 2), none, []⟩, ⟨(some 6), 8, .load false 1 (.t 5), none, []⟩, ⟨(some 7), 9, .mv (.t 1), none, []⟩, ⟨(some 8), 10, .call 60 [((.t 6), 0), ((.t 7), 0)], none, []⟩, ⟨(some 1), 3, .mv (.t 8), none, []⟩])
  (.seq (.seq (.ops [⟨(some 9), 11, .mv (.t 1), none, []⟩, ⟨(some 10), 12, .bin .lss (.t 9) (.c (.i .i64 0)), none, []⟩])
  (.cond (.t 10)
  (.seq (.ops [⟨(some 4), 6, .mv (.c (.i .i64 (-1))), none, []⟩])
  .ret)
  .skip))
  (.seq (.ops [⟨(some 11), 13, .faddr 1 1 (.t 2), none, []⟩, ⟨(some 12), 14, .load false 1 (.t 11), none, []⟩, ⟨(some 13), 15, .mv (.t 1), none, []⟩, ⟨(some 14), 16, .call 112 [((.t 12), 0), ((.t 13), 0)], none, []⟩, ⟨(some 1), 3, .mv (.t 14), none, []⟩])
  (.seq (.seq (.ops [⟨(some 15), 17, .mv (.t 1), none, []⟩, ⟨(some 16), 18, .bin .lss (.t 15) (.c (.i .i64 0)), none, []⟩])
  (.cond (.t 16)
  (.seq (.ops [⟨(some 4), 6, .mv (.c (.i .i64 (-1))), none, []⟩])
  .ret)
  .skip))
  (.seq (.ops [⟨(some 17), 19, .faddr 2 1 (.t 2), none, []⟩, ⟨(some 18), 20, .load false 1 (.t 17), none, []⟩, ⟨(some 19), 21, .mv (.t 1), none, []⟩, ⟨(some 20), 22, .call 113 [((.t 18), 0), ((.t 19), 0)], none, []⟩, ⟨(some 1), 3, .mv (.t 20), none, []⟩])
  (.seq (.seq (.ops [⟨(some 21), 23, .mv (.t 1), none, []⟩, ⟨(some 22), 24, .bin .lss (.t 21) (.c (.i .i64 0)), none, []⟩])
  (.cond (.t 22)
  (.seq (.ops [⟨(some 4), 6, .mv (.c (.i .i64 (-1))), none, []⟩])
  .ret)
  .skip))
  (.seq (.ops [⟨(some 23), 25, .mv (.t 1), none, []⟩, ⟨(some 4), 6, .mv (.t 23), none, []⟩])
  .ret))))))))
theorem k76 : compCode Try.prog Try.f76.ntmps Try.f76.body.get! = some c76 := by kernel_rfl
theorem r76 : resTmps Try.prog Try.f76.results.toList = some [.tmp 4] := by kernel_rfl
/- laws.toTable -/
def c82 : TCode := (.seq (.ops [⟨(some 1), 3, .box 3 (.t 0), none, []⟩, ⟨(some 2), 4, .box 3 (.c (.ag [(.sl true 1 []), (.sl true 2 []), (.sl true 1 [])])), none, []⟩])
  (.seq (.ops [⟨(some 3), 5, .box 3 (.c (.ag [(.sl true 1 []), (.sl true 2 []), (.sl true 1 [])])), none, []⟩])
  (.seq (.ops [⟨(some 4), 6, .faddr 0 1 (.t 1), none, []⟩, ⟨(some 5), 7, .load false 1 (.t 4), none, []⟩, ⟨(some 6), 8, .call 63 [((.t 5), 0)], none, []⟩, ⟨(some 7), 9, .faddr 0 1 (.t 3), none, []⟩, ⟨none, 1002004, .store 1 (.t 7) (.t 6), none, []⟩])
  (.seq (.ops [⟨(some 8), 10, .faddr 1 1 (.t 1), none, []⟩, ⟨(some 9), 11, .load false 1 (.t 8), none, []⟩, ⟨(some 10), 12, .call 116 [((.t 9), 0)], none, []⟩, ⟨(some 11), 13, .faddr 1 1 (.t 3), none, []⟩, ⟨none, 1003004, .store 1 (.t 11) (.t 10), none, []⟩])
  (.seq (.ops [⟨(some 12), 14, .faddr 2 1 (.t 1), none, []⟩, ⟨(some 13), 15, .load false 1 (.t 12), none, []⟩, ⟨(some 14), 16, .call 117 [((.t 13), 0)], none, []⟩, ⟨(some 15), 17, .faddr 2 1 (.t 3), none, []⟩, ⟨none, 1004004, .store 1 (.t 15) (.t 14), none, []⟩])
  (.seq (.ops [⟨(some 16), 18, .load true 3 (.t 3), none, []⟩, ⟨none, 1005001, .store 3 (.t 2) (.t 16), none, []⟩])
  .ret))))))
theorem k82 : compCode Try.prog Try.f82.ntmps Try.f82.body.get! = some c82 := by kernel_rfl
theorem r82 : resTmps Try.prog Try.f82.results.toList = some [.cell 2 true 3] := by kernel_rfl
/- laws.eqTable -/
def c93 : TCode := (.seq (.ops [⟨(some 2), 4, .box 3 (.t 0), none, []⟩, ⟨(some 3), 5, .box 3 (.t 1), none, []⟩, ⟨(some 4), 6, .mv (.c (.b false)), none, []⟩])
  (.seq (.seq (.ops [⟨(some 5), 7, .faddr 0 1 (.t 2), none, []⟩, ⟨(some 6), 8, .load false 1 (.t 5), none, []⟩, ⟨(some 7), 9, .faddr 0 1 (.t 3), none, []⟩, ⟨(some 8), 10, .load false 1 (.t 7), none, []⟩, ⟨(some 9), 11, .call 66 [((.t 6), 0), ((.t 8), 0)], none, []⟩, ⟨(some 10), 12, .un .not (.t 9), none, []⟩])
  (.cond (.t 10)
  (.seq (.ops [⟨(some 4), 6, .mv (.c (.b false)), none, []⟩])
  .ret)
  .skip))
  (.seq (.seq (.ops [⟨(some 11), 13, .faddr 1 1 (.t 2), none, []⟩, ⟨(some 12), 14, .load false 1 (.t 11), none, []⟩, ⟨(some 13), 15, .faddr 1 1 (.t 3), none, []⟩, ⟨(some 14), 16, .load false 1 (.t 13), none, []⟩, ⟨(some 15), 17, .call 122 [((.t 12), 0), ((.t 14), 0)], none, []⟩, ⟨(some 16), 18, .un .not (.t 15), none, []⟩])
  (.cond (.t 16)
  (.seq (.ops [⟨(some 4), 6, .mv (.c (.b false)), none, []⟩])
  .ret)
  .skip))
  (.seq (.seq (.ops [⟨(some 17), 19, .faddr 2 1 (.t 2), none, []⟩, ⟨(some 18), 20, .load false 1 (.t 17), none, []⟩, ⟨(some 19), 21, .faddr 2 1 (.t 3), none, []⟩, ⟨(some 20), 22, .load false 1 (.t 19), none, []⟩, ⟨(some 21), 23, .call 123 [((.t 18), 0), ((.t 20), 0)], none, []⟩, ⟨(some 22), 24, .un .not (.t 21), none, []⟩])
  (.cond (.t 22)
  (.seq (.ops [⟨(some 4), 6, .mv (.c (.b false)), none, []⟩])
  .ret)
  .skip))
  (.seq (.ops [⟨(some 4), 6, .mv (.c (.b true)), none, []⟩])
  .ret)))))
theorem k93 : compCode Try.prog Try.f93.ntmps Try.f93.body.get! = some c93 := by kernel_rfl
theorem r93 : resTmps Try.prog Try.f93.results.toList = some [.tmp 4] := by kernel_rfl
/- laws.szTableS -/
def c31 : TCode := (.seq (.ops [⟨(some 4), 6, .mv (.c (.i .i64 0)), none, []⟩])
  (.seq (.ops [⟨(some 6), 8, .mv (.t 1), none, []⟩, ⟨(some 7), 9, .mv (.t 0), none, []⟩, ⟨(some 8), 10, .len false (.t 7), none, []⟩, ⟨(some 9), 11, .bin .sub (.t 6) (.t 8), none, []⟩, ⟨(some 1), 3, .mv (.t 9), none, []⟩])
  (.seq (.seq (.ops [⟨(some 10), 12, .mv (.t 1), none, []⟩, ⟨(some 11), 13, .bin .lss (.t 10) (.c (.i .i64 0)), none, []⟩])
  (.cond (.t 11)
  (.seq (.ops [⟨(some 4), 6, .mv (.c (.i .i64 (-1))), none, []⟩])
  .ret)
  .skip))
  (.seq (.seq (.ops [⟨(some 5), 7, .mv (.c (.i .i64 0)), none, []⟩])
  (.block 0 (.loop (.seq (.seq (.ops [⟨(some 12), 14, .mv (.t 5), none, []⟩, ⟨(some 13), 15, .mv (.t 0), none, []⟩, ⟨(some 14), 16, .len false (.t 13), none, []⟩, ⟨(some 15), 17, .bin .lss (.t 12) (.t 14), none, []⟩])
  (.cond (.t 15)
  .skip
  (.exit 0)))
  (.seq (.block 1 (.seq (.ops [⟨(some 18), 20, .mv (.t 0), none, []⟩, ⟨(some 19), 21, .mv (.t 5), none, []⟩, ⟨(some 20), 22, .iaddr 3 (.t 18) (.t 19), none, []⟩, ⟨(some 21), 23, .load true 3 (.t 20), none, []⟩, ⟨(some 22), 24, .mv (.t 1), none, []⟩, ⟨(some 23), 25, .call 76 [((.t 21), 0), ((.t 22), 0)], none, []⟩, ⟨(some 1), 3, .mv (.t 23), none, []⟩])
  (.seq (.ops [⟨(some 24), 26, .mv (.t 1), none, []⟩, ⟨(some 25), 27, .bin .lss (.t 24) (.c (.i .i64 0)), none, []⟩])
  (.cond (.t 25)
  (.seq (.ops [⟨(some 4), 6, .mv (.c (.i .i64 (-1))), none, []⟩])
  .ret)
  .skip))))
  (.ops [⟨(some 16), 18, .mv (.t 5), none, []⟩, ⟨(some 17), 19, .bin .add (.t 16) (.c (.i .i64 1)), none, []⟩, ⟨(some 5), 7, .mv (.t 17), none, []⟩]))))))
  (.seq (.ops [⟨(some 26), 28, .mv (.t 1), none, []⟩, ⟨(some 4), 6, .mv (.t 26), none, []⟩])
  .ret)))))
theorem k31 : compCode Try.prog Try.f31.ntmps Try.f31.body.get! = some c31 := by kernel_rfl
theorem r31 : resTmps Try.prog Try.f31.results.toList = some [.tmp 4] := by kernel_rfl
/- laws.toTableS -/
def c41 : TCode := (.seq (.ops [⟨(some 2), 4, .mv (.c (.sl true 3 [])), none, []⟩])
  (.seq (.ops [⟨(some 5), 7, .mv (.t 0), none, []⟩, ⟨(some 6), 8, .len false (.t 5), none, []⟩, ⟨(some 7), 9, .mkslice 3 72 [(.sl true 1 []), (.sl true 2 []), (.sl true 1 [])] (.t 6) (.t 6), none, []⟩, ⟨(some 3), 5, .mv (.t 7), none, []⟩])
  (.seq (.seq (.ops [⟨(some 4), 6, .mv (.c (.i .i64 0)), none, []⟩])
  (.block 0 (.loop (.seq (.seq (.ops [⟨(some 8), 10, .mv (.t 4), none, []⟩, ⟨(some 9), 11, .mv (.t 0), none, []⟩, ⟨(some 10), 12, .len false (.t 9), none, []⟩, ⟨(some 11), 13, .bin .lss (.t 8) (.t 10), none, []⟩])
  (.cond (.t 11)
  .skip
  (.exit 0)))
  (.seq (.block 1 (.ops [⟨(some 14), 16, .mv (.t 3), none, []⟩, ⟨(some 15), 17, .mv (.t 4), none, []⟩, ⟨(some 16), 18, .mv (.t 0), none, []⟩, ⟨(some 17), 19, .mv (.t 4), none, []⟩, ⟨(some 18), 20, .iaddr 3 (.t 16) (.t 17), none, []⟩, ⟨(some 19), 21, .load true 3 (.t 18), none, []⟩, ⟨(some 20), 22, .call 82 [((.t 19), 0)], none, []⟩, ⟨(some 21), 23, .iaddr 3 (.t 14) (.t 15), none, []⟩, ⟨none, 1005008, .store 3 (.t 21) (.t 20), none, []⟩]))
  (.ops [⟨(some 12), 14, .mv (.t 4), none, []⟩, ⟨(some 13), 15, .bin .add (.t 12) (.c (.i .i64 1)), none, []⟩, ⟨(some 4), 6, .mv (.t 13), none, []⟩]))))))
  (.seq (.ops [⟨(some 22), 24, .mv (.t 3), none, []⟩, ⟨(some 2), 4, .mv (.t 22), none, []⟩])
  .ret))))
theorem k41 : compCode Try.prog Try.f41.ntmps Try.f41.body.get! = some c41 := by kernel_rfl
theorem r41 : resTmps Try.prog Try.f41.results.toList = some [.tmp 2] := by kernel_rfl
/- laws.eqTableS -/
def c51 : TCode := (.seq (.ops [⟨(some 4), 6, .mv (.c (.b false)), none, []⟩])
  (.seq (.seq (.ops [⟨(some 6), 8, .mv (.t 0), none, []⟩, ⟨(some 7), 9, .len false (.t 6), none, []⟩, ⟨(some 8), 10, .mv (.t 1), none, []⟩, ⟨(some 9), 11, .len false (.t 8), none, []⟩, ⟨(some 10), 12, .bin .neq (.t 7) (.t 9), none, []⟩])
  (.cond (.t 10)
  (.seq (.ops [⟨(some 4), 6, .mv (.c (.b false)), none, []⟩])
  .ret)
  .skip))
  (.seq (.seq (.ops [⟨(some 5), 7, .mv (.c (.i .i64 0)), none, []⟩])
  (.block 0 (.loop (.seq (.seq (.ops [⟨(some 11), 13, .mv (.t 5), none, []⟩, ⟨(some 12), 14, .mv (.t 0), none, []⟩, ⟨(some 13), 15, .len false (.t 12), none, []⟩, ⟨(some 14), 16, .bin .lss (.t 11) (.t 13), none, []⟩])
  (.cond (.t 14)
  .skip
  (.exit 0)))
  (.seq (.block 1 (.seq (.draw [⟨(some 17), 19, .mv (.t 0), none, []⟩, ⟨(some 18), 20, .mv (.t 5), none, []⟩, ⟨(some 19), 21, .iaddr 3 (.t 17) (.t 18), none, []⟩, ⟨(some 20), 22, .load true 3 (.t 19), none, []⟩, ⟨(some 21), 23, .mv (.t 1), none, []⟩, ⟨(some 22), 24, .mv (.t 5), none, []⟩, ⟨(some 23), 25, .iaddr 3 (.t 21) (.t 22), none, []⟩, ⟨(some 24), 26, .load true 3 (.t 23), none, []⟩, ⟨(some 25), 27, .call 93 [((.t 20), 0), ((.t 24), 0)], none, []⟩, ⟨(some 26), 28, .un .not (.t 25), none, []⟩])
  (.cond (.t 26)
  (.seq (.ops [⟨(some 4), 6, .mv (.c (.b false)), none, []⟩])
  .ret)
  .skip)))
  (.ops [⟨(some 15), 17, .mv (.t 5), none, []⟩, ⟨(some 16), 18, .bin .add (.t 15) (.c (.i .i64 1)), none, []⟩, ⟨(some 5), 7, .mv (.t 16), none, []⟩]))))))
  (.seq (.ops [⟨(some 4), 6, .mv (.c (.b true)), none, []⟩])
  .ret))))
theorem k51 : compCode Try.prog Try.f51.ntmps Try.f51.body.get! = some c51 := by kernel_rfl
theorem r51 : resTmps Try.prog Try.f51.results.toList = some [.tmp 4] := by kernel_rfl
/- laws.szWorld -/
def c8 : TCode := (.seq (.ops [⟨(some 2), 4, .box 4 (.t 0), none, []⟩, ⟨(some 4), 6, .mv (.c (.i .i64 0)), none, []⟩])
  (.seq (.ops [⟨(some 5), 7, .faddr 0 2 (.t 2), none, []⟩, ⟨(some 6), 8, .load true 2 (.t 5), none, []⟩, ⟨(some 7), 9, .mv (.t 1), none, []⟩, ⟨(some 8), 10, .call 30 [((.t 6), 0), ((.t 7), 0)], none, []⟩, ⟨(some 1), 3, .mv (.t 8), none, []⟩])
  (.seq (.seq (.ops [⟨(some 9), 11, .mv (.t 1), none, []⟩, ⟨(some 10), 12, .bin .lss (.t 9) (.c (.i .i64 0)), none, []⟩])
  (.cond (.t 10)
  (.seq (.ops [⟨(some 4), 6, .mv (.c (.i .i64 (-1))), none, []⟩])
  .ret)
  .skip))
  (.seq (.ops [⟨(some 11), 13, .faddr 2 1 (.t 2), none, []⟩, ⟨(some 12), 14, .load false 1 (.t 11), none, []⟩, ⟨(some 13), 15, .mv (.t 1), none, []⟩, ⟨(some 14), 16, .call 31 [((.t 12), 0), ((.t 13), 0)], none, []⟩, ⟨(some 1), 3, .mv (.t 14), none, []⟩])
  (.seq (.seq (.ops [⟨(some 15), 17, .mv (.t 1), none, []⟩, ⟨(some 16), 18, .bin .lss (.t 15) (.c (.i .i64 0)), none, []⟩])
  (.cond (.t 16)
  (.seq (.ops [⟨(some 4), 6, .mv (.c (.i .i64 (-1))), none, []⟩])
  .ret)
  .skip))
  (.seq (.ops [⟨(some 17), 19, .faddr 3 1 (.t 2), none, []⟩, ⟨(some 18), 20, .load false 1 (.t 17), none, []⟩, ⟨(some 19), 21, .mv (.t 1), none, []⟩, ⟨(some 20), 22, .call 32 [((.t 18), 0), ((.t 19), 0)], none, []⟩, ⟨(some 1), 3, .mv (.t 20), none, []⟩])
  (.seq (.seq (.ops [⟨(some 21), 23, .mv (.t 1), none, []⟩, ⟨(some 22), 24, .bin .lss (.t 21) (.c (.i .i64 0)), none, []⟩])
  (.cond (.t 22)
  (.seq (.ops [⟨(some 4), 6, .mv (.c (.i .i64 (-1))), none, []⟩])
  .ret)
  .skip))
  (.seq (.ops [⟨(some 23), 25, .mv (.t 1), none, []⟩, ⟨(some 4), 6, .mv (.t 23), none, []⟩])
  .ret))))))))
theorem k8 : compCode Try.prog Try.f8.ntmps Try.f8.body.get! = some c8 := by kernel_rfl
theorem r8 : resTmps Try.prog Try.f8.results.toList = some [.tmp 4] := by kernel_rfl
/- laws.toWorld -/
def c11 : TCode := (.seq (.ops [⟨(some 1), 3, .box 4 (.t 0), none, []⟩, ⟨(some 2), 4, .box 4 (.c (.ag [(.sl true 1 []), (.sl true 1 []), (.sl true 3 []), (.sl true 4 [])])), none, []⟩])
  (.seq (.ops [⟨(some 3), 5, .box 4 (.c (.ag [(.sl true 1 []), (.sl true 1 []), (.sl true 3 []), (.sl true 4 [])])), none, []⟩])
  (.seq (.ops [⟨(some 4), 6, .faddr 0 2 (.t 1), none, []⟩, ⟨(some 5), 7, .load true 2 (.t 4), none, []⟩, ⟨(some 6), 8, .call 40 [((.t 5), 0)], none, []⟩, ⟨(some 7), 9, .faddr 0 2 (.t 3), none, []⟩, ⟨none, 1002004, .store 2 (.t 7) (.t 6), none, []⟩])
  (.seq (.ops [⟨(some 8), 10, .faddr 2 1 (.t 1), none, []⟩, ⟨(some 9), 11, .load false 1 (.t 8), none, []⟩, ⟨(some 10), 12, .call 41 [((.t 9), 0)], none, []⟩, ⟨(some 11), 13, .faddr 2 1 (.t 3), none, []⟩, ⟨none, 1003004, .store 1 (.t 11) (.t 10), none, []⟩])
  (.seq (.ops [⟨(some 12), 14, .faddr 3 1 (.t 1), none, []⟩, ⟨(some 13), 15, .load false 1 (.t 12), none, []⟩, ⟨(some 14), 16, .call 42 [((.t 13), 0)], none, []⟩, ⟨(some 15), 17, .faddr 3 1 (.t 3), none, []⟩, ⟨none, 1004004, .store 1 (.t 15) (.t 14), none, []⟩])
  (.seq (.ops [⟨(some 16), 18, .load true 4 (.t 3), none, []⟩, ⟨none, 1005001, .store 4 (.t 2) (.t 16), none, []⟩])
  .ret))))))
theorem k11 : compCode Try.prog Try.f11.ntmps Try.f11.body.get! = some c11 := by kernel_rfl
theorem r11 : resTmps Try.prog Try.f11.results.toList = some [.cell 2 true 4] := by kernel_rfl
/- laws.eqWorld -/
def c14 : TCode := (.seq (.ops [⟨(some 2), 4, .box 4 (.t 0), none, []⟩, ⟨(some 3), 5, .box 4 (.t 1), none, []⟩, ⟨(some 4), 6, .mv (.c (.b false)), none, []⟩])
  (.seq (.seq (.ops [⟨(some 5), 7, .faddr 0 2 (.t 2), none, []⟩, ⟨(some 6), 8, .load true 2 (.t 5), none, []⟩, ⟨(some 7), 9, .faddr 0 2 (.t 3), none, []⟩, ⟨(some 8), 10, .load true 2 (.t 7), none, []⟩, ⟨(some 9), 11, .call 50 [((.t 6), 0), ((.t 8), 0)], none, []⟩, ⟨(some 10), 12, .un .not (.t 9), none, []⟩])
  (.cond (.t 10)
  (.seq (.ops [⟨(some 4), 6, .mv (.c (.b false)), none, []⟩])
  .ret)
  .skip))
  (.seq (.seq (.ops [⟨(some 11), 13, .faddr 2 1 (.t 2), none, []⟩, ⟨(some 12), 14, .load false 1 (.t 11), none, []⟩, ⟨(some 13), 15, .faddr 2 1 (.t 3), none, []⟩, ⟨(some 14), 16, .load false 1 (.t 13), none, []⟩, ⟨(some 15), 17, .call 51 [((.t 12), 0), ((.t 14), 0)], none, []⟩, ⟨(some 16), 18, .un .not (.t 15), none, []⟩])
  (.cond (.t 16)
  (.seq (.ops [⟨(some 4), 6, .mv (.c (.b false)), none, []⟩])
  .ret)
  .skip))
  (.seq (.seq (.ops [⟨(some 17), 19, .faddr 3 1 (.t 2), none, []⟩, ⟨(some 18), 20, .load false 1 (.t 17), none, []⟩, ⟨(some 19), 21, .faddr 3 1 (.t 3), none, []⟩, ⟨(some 20), 22, .load false 1 (.t 19), none, []⟩, ⟨(some 21), 23, .call 52 [((.t 18), 0), ((.t 20), 0)], none, []⟩, ⟨(some 22), 24, .un .not (.t 21), none, []⟩])
  (.cond (.t 22)
  (.seq (.ops [⟨(some 4), 6, .mv (.c (.b false)), none, []⟩])
  .ret)
  .skip))
  (.seq (.ops [⟨(some 4), 6, .mv (.c (.b true)), none, []⟩])
  .ret)))))
theorem k14 : compCode Try.prog Try.f14.ntmps Try.f14.body.get! = some c14 := by kernel_rfl
theorem r14 : resTmps Try.prog Try.f14.results.toList = some [.tmp 4] := by kernel_rfl

/-- Rows whose cells hold slices: one's own, and only read. -/
theorem fzLL_mapR {α : Type} {f g : α → List TV} (h : ∀ x, fzL (f x) = g x) (l : List α) : fzLL (l.map f) = l.map g := by
  induction l with
  | nil => rfl
  | cons a l ih => simp [fzLL, h, ih]

@[simp] def cvT (v : List ValP) : List TV := [.sl false 4 (v.map vT)]
@[simp] def cvO (v : List ValP) : List TV := [.sl true 4 (v.map vT)]
@[simp] theorem fzL_cvT (v : List ValP) : fzL (cvT v) = cvT v := by simp
@[simp] theorem fzL_cvO (v : List ValP) : fzL (cvO v) = cvT v := by simp
@[simp] theorem fzLL_cvT (l : List (List ValP)) : fzLL (l.map cvT) = l.map cvT := fzLL_map fzL_cvT l
@[simp] theorem fzLL_cvO (l : List (List ValP)) : fzLL (l.map cvO) = l.map cvT := fzLL_mapR fzL_cvO l
@[simp] theorem noROLL_cvO (l : List (List ValP)) : noROLL (l.map cvO) = true := noROLL_map (fun _ => by simp [noROL, noRO]) l
@[simp] theorem noref_cvT (l : List (List ValP)) : (l.map cvT).all (·.all noref) = true := noref_map (fun _ => by simp) l

abbrev EntP := Int × Int
abbrev TableP := List Int × List (Int × Int) × List (List ValP)
@[simp] def tbT (t : TableP) : List TV := [.sl false 1 (t.1.map iT), .sl false 2 (t.2.1.map eT), .sl false 1 (t.2.2.map cvT)]
@[simp] def tbO (t : TableP) : List TV := [.sl true 1 (t.1.map iT), .sl true 2 (t.2.1.map eT), .sl true 1 (t.2.2.map cvO)]
@[simp] theorem fzL_tbT (t : TableP) : fzL (tbT t) = tbT t := by simp
@[simp] theorem fzL_tbO (t : TableP) : fzL (tbO t) = tbT t := by simp
@[simp] theorem fzLL_tbT (l : List TableP) : fzLL (l.map tbT) = l.map tbT := fzLL_map fzL_tbT l
@[simp] theorem fzLL_tbO (l : List TableP) : fzLL (l.map tbO) = l.map tbT := fzLL_mapR fzL_tbO l
@[simp] theorem noROLL_tbO (l : List TableP) : noROLL (l.map tbO) = true := noROLL_map (fun _ => by simp [noROL, noRO]) l
@[simp] theorem noref_tbT (l : List TableP) : (l.map tbT).all (·.all noref) = true := noref_map (fun _ => by simp) l
abbrev tableR (t : TableP) : TV := .ag (tbT t)
abbrev tableO (t : TableP) : TV := .ag (tbO t)
abbrev worldR (g f : List Int) (ts : List TableP) (rs : List ValP) : TV := .ag [.sl false 1 (g.map iT), .sl false 1 (f.map iT), .sl false 3 (ts.map tbT), .sl false 4 (rs.map vT)]
abbrev worldO (g f : List Int) (ts : List TableP) (rs : List ValP) : TV := .ag [.sl true 1 (g.map iT), .sl true 1 (f.map iT), .sl true 3 (ts.map tbO), .sl true 4 (rs.map vT)]

/-! ### sizes -/
def sumN {α : Type} (c : α → Nat) : List α → Nat
  | [] => 0
  | x :: l => c x + sumN c l
theorem sumN_mem {α : Type} {c : α → Nat} {x : α} : ∀ {l : List α}, x ∈ l → c x ≤ sumN c l
  | y :: l, h => by
    rcases List.mem_cons.1 h with rfl | h
    · simp [sumN]
    · have := sumN_mem (c := c) h; simp only [sumN]; omega
theorem sumN_snoc {α : Type} (c : α → Nat) (l : List α) (x : α) : sumN c (l ++ [x]) = sumN c l + c x := by
  induction l with
  | nil => simp [sumN]
  | cons y l ih => simp [sumN, ih]; omega
theorem sumN_take {α : Type} (c : α → Nat) (l : List α) (j : Nat) : sumN c (l.take j) ≤ sumN c l := by
  induction l generalizing j with
  | nil => simp [sumN]
  | cons y l ih => cases j with
    | zero => simp [sumN]
    | succ j => have := ih j; simp only [List.take_succ_cons, sumN]; omega
/-- What is taken off, told as a sum. -/
structure SzC {α : Type} (f : α → Int → Int) (c : α → Nat) : Prop where
  le : ∀ x m, 0 ≤ m → f x m ≤ m
  neg : ∀ x m, f x m < 0 → f x m = -1
  eq : ∀ x m, 0 ≤ m → 0 ≤ f x m → f x m = m - c x
theorem szA_eq {α : Type} {f : α → Int → Int} {c : α → Nat} (h : SzC f c) : ∀ (l : List α) (n : Int), 0 ≤ n → 0 ≤ szA f l n → szA f l n = n - sumN c l
  | [], n, _, _ => by simp [sumN]
  | x :: l, n, h0, h1 => by
    have e : szA f (x :: l) n = szA f l (f x n) := by show szA f l (if n < 0 then -1 else f x n) = _; rw [if_neg (by omega)]
    rw [e] at h1 ⊢
    have hx : 0 ≤ f x n := by
      rcases Int.lt_or_le (f x n) 0 with h' | h'
      · rw [h.neg x n h', szA_neg f l _ rfl] at h1; omega
      · exact h'
    rw [szA_eq h l _ hx h1, h.eq x n h0 hx]
    simp only [sumN]; omega
theorem szS_C {α : Type} {f : α → Int → Int} {c : α → Nat} (h : SzC f c) : SzC (fun (l : List α) n => szS f l n) (fun l => l.length + sumN c l) := by
  refine ⟨fun l m h0 => ?_, fun l m h1 => szS_neg h.neg l m h1, fun l m h0 h1 => ?_⟩
  · rcases Int.lt_or_le (szS f l m) 0 with h' | h'
    · omega
    · exact (szS_lo h.le h0 (by omega)).2.1
  · obtain ⟨_, _, h4, _⟩ := szS_lo h.le h0 (by omega : ¬ szS f l m < 0)
    have e : szF m l.length = m - l.length := by unfold szF; rw [if_neg (by omega)]
    have e2 : szS f l m = szA f l (m - l.length) := by unfold szS; rw [e, if_neg (by omega)]
    show szS f l m = _
    rw [e2] at h1 ⊢
    rw [szA_eq h l _ (by omega) h1]; omega
theorem szF_C {α : Type} (c : α → Nat) : SzC (fun (x : α) n => szF n (c x)) c := by
  refine ⟨fun x m h => ?_, fun x m h => szF_neg _ _ h, fun x m h0 h => ?_⟩
  · show szF m (c x) ≤ m
    unfold szF; split <;> omega
  · revert h; show 0 ≤ szF m (c x) → szF m (c x) = _
    unfold szF; split <;> omega
/-- One behind the other. -/
def szTwo {α : Type} (f g : α → Int → Int) (x : α) (n : Int) : Int := if f x n < 0 then -1 else g x (f x n)
theorem szTwo_C {α : Type} {f g : α → Int → Int} {c d : α → Nat} (hf : SzC f c) (hg : SzC g d) : SzC (szTwo f g) (fun x => c x + d x) := by
  refine ⟨fun x m h => ?_, fun x m h => ?_, fun x m h0 h => ?_⟩
  · unfold szTwo; split
    · omega
    · have := hf.le x m h; have := hg.le x (f x m) (by omega); omega
  · revert h; unfold szTwo; split
    · omega
    · exact hg.neg _ _
  · revert h; unfold szTwo; split
    · omega
    · intro h1
      rw [hg.eq x _ (by omega) h1, hf.eq x m h0 (by omega)]; omega

theorem w112 (l : List (Int × Int)) (n : Int) (hl : l.length < 2^63) (hn : n < 2^62) (hn0 : 0 ≤ n) : Contract Try.prog false 112 [.ro, .ro] [.sl false 2 (l.map eT), .i .i64 n] [.i .i64 (szF n l.length)] [] := by
  refine mk_contract [] Try.func112 (c := Try.f112.body.get!) (by kernel_rfl) k112 r112 (of_decide_eq_true rfl) fun _ => ?_
  have hw : IntKind.i64.wrap (n - l.length) = n - l.length := wrap_id (by omega) (by omega)
  unfold c112; unfold szF; simp [hw]
  omega
def szVF (v : List ValP) (n : Int) : Int := szF n v.length
theorem szV_C : SzC szVF (fun v => v.length) := szF_C _
theorem w113 (l : List (List ValP)) (n : Int) (hl : l.length < 2^63) (hd : ∀ v ∈ l, v.length < 2^63) (hn : n < 2^62) (hn0 : 0 ≤ n) : Contract Try.prog false 113 [.ro, .ro] [.sl false 1 (l.map cvT), .i .i64 n] [.i .i64 (szS szVF l n)] [] := by
  refine mk_contract [] Try.func113 (c := Try.f113.body.get!) (by kernel_rfl) k113 r113 (of_decide_eq_true rfl) fun _ => ?_
  have hw : IntKind.i64.wrap (n - l.length) = n - l.length := wrap_id (by omega) (by omega)
  unfold c113; simp [hw]
  refine ⟨fun h => ?_, fun h => ?_⟩
  · simp [szS, szF, h]
  have e : szF n l.length = n - l.length := by unfold szF; rw [if_neg (by omega)]
  have e2 : szS szVF l n = szA szVF l (n - l.length) := by unfold szS; rw [e, if_neg (by omega)]
  rw [e2]
  refine twp_for l.length (fun j s => s.t 0 = .sl false 1 (l.map cvT) ∧ s.t 1 = .i .i64 (szA szVF (l.take j) (n - l.length)) ∧ s.t 5 = .i .i64 j ∧ 0 ≤ szA szVF (l.take j) (n - l.length) ∧ s.H = lk [(1, [])]) [] (by simp) ?_ ?_
  · simp; omega
  · rintro j s hj ⟨q0, q1, q5, h0, qH⟩
    rw [nf_of qH]
    simp [q0, q1, q5]
    refine ⟨fun hlt => ?_, fun hge => ?_⟩
    · have hw : IntKind.i64.wrap (j + 1) = j + 1 := wrap_id (by omega) (by omega)
      obtain ⟨x, hx⟩ := get_some hlt
      have hle := (szA_ok szV_C.le (l.take j) _ h0 (by omega)).1
      have hs : szA szVF (l.take (j + 1)) (n - l.length) = szVF x (szA szVF (l.take j) (n - l.length)) := by
        rw [take_snoc hx, szA_snoc, if_neg (by omega)]
      have hng := szV_C.neg x (szA szVF (l.take j) (n - l.length))
      have hng2 := szA_take szVF l (n - l.length) (j + 1)
      rw [hs] at hng2
      generalize szA szVF (l.take j) (n - l.length) = m at *
      simp [hx, hw, q0, q1, q5]
      refine callW_ms [.ro, .ro] ?_
      simp
      refine callX_of (w32 x m (hd x (List.mem_of_getElem? hx)) (by omega) h0) (by simp) ?_
      simp [hw, q0, q1, q5]
      have hu : szF m x.length = szVF x m := rfl
      rw [hu]
      generalize szVF x m = m' at *
      refine ⟨fun h1 => (hng2 (hng h1)).symm, fun h1 => ⟨hlt, by rw [hs], by rw [hs]; omega⟩⟩
    · obtain rfl : j = l.length := by omega
      simp [q0, q1, q5]
def szTF : TableP → Int → Int := szTwo (fun t n => szF n t.1.length) (szTwo (fun t n => szF n t.2.1.length) fun t n => szS szVF t.2.2 n)
def cT (t : TableP) : Nat := t.1.length + (t.2.1.length + (t.2.2.length + sumN (fun v => v.length) t.2.2))
theorem szT_C : SzC szTF cT := by
  have h3 : SzC (fun (t : TableP) n => szS szVF t.2.2 n) (fun t => t.2.2.length + sumN (fun v => v.length) t.2.2) :=
    ⟨fun t m h => (szS_C szV_C).le t.2.2 m h, fun t m h => (szS_C szV_C).neg t.2.2 m h, fun t m h0 h => (szS_C szV_C).eq t.2.2 m h0 h⟩
  exact szTwo_C (szF_C _) (szTwo_C (szF_C _) h3)
def bdT (t : TableP) : Prop := t.1.length < 2^63 ∧ t.2.1.length < 2^63 ∧ t.2.2.length < 2^63 ∧ ∀ v ∈ t.2.2, v.length < 2^63
theorem w76 (t : TableP) (n : Int) (hb : bdT t) (hn : n < 2^62) (hn0 : 0 ≤ n) : Contract Try.prog false 76 [.ro, .ro] [tableR t, .i .i64 n] [.i .i64 (szTF t n)] [] := by
  refine mk_contract [] Try.func76 (c := Try.f76.body.get!) (by kernel_rfl) k76 r76 (of_decide_eq_true rfl) fun _ => ?_
  obtain ⟨b1, b2, b3, b4⟩ := hb
  have e : szTF t n = if szF n t.1.length < 0 then -1 else if szF (szF n t.1.length) t.2.1.length < 0 then -1 else szS szVF t.2.2 (szF (szF n t.1.length) t.2.1.length) := rfl
  have hA := szF_le n t.1.length (by omega) hn0
  unfold c76; simp
  refine callW_ms [.ro, .ro] ?_
  simp
  refine callX_of (w60 t.1 n b1 hn hn0) (by simp) ?_
  simp
  refine ⟨fun h => ?_, fun h => ?_⟩
  · rw [e, if_pos h]
  rw [if_neg (by omega)] at e
  generalize szF n t.1.length = a at *
  have hB := szF_le a t.2.1.length (by omega) h
  refine callW_ms [.ro, .ro] ?_
  simp
  refine callX_of (w112 t.2.1 a b2 (by omega) h) (by simp) ?_
  simp
  refine ⟨fun h => ?_, fun h => ?_⟩
  · rw [e, if_pos h]
  rw [if_neg (by omega)] at e
  generalize szF a t.2.1.length = b at *
  refine callW_ms [.ro, .ro] ?_
  simp
  refine callX_of (w113 t.2.2 b b3 b4 (by omega) h) (by simp) ?_
  simp
  rw [e]
  exact ⟨fun h => (szS_neg szV_C.neg _ _ h).symm, fun _ => rfl⟩
theorem w31 (l : List TableP) (n : Int) (hl : l.length < 2^63) (hd : ∀ t ∈ l, bdT t) (hn : n < 2^62) (hn0 : 0 ≤ n) : Contract Try.prog false 31 [.ro, .ro] [.sl false 3 (l.map tbT), .i .i64 n] [.i .i64 (szS szTF l n)] [] := by
  refine mk_contract [] Try.func31 (c := Try.f31.body.get!) (by kernel_rfl) k31 r31 (of_decide_eq_true rfl) fun _ => ?_
  have hw : IntKind.i64.wrap (n - l.length) = n - l.length := wrap_id (by omega) (by omega)
  unfold c31; simp [hw]
  refine ⟨fun h => ?_, fun h => ?_⟩
  · simp [szS, szF, h]
  have e : szF n l.length = n - l.length := by unfold szF; rw [if_neg (by omega)]
  have e2 : szS szTF l n = szA szTF l (n - l.length) := by unfold szS; rw [e, if_neg (by omega)]
  rw [e2]
  refine twp_for l.length (fun j s => s.t 0 = .sl false 3 (l.map tbT) ∧ s.t 1 = .i .i64 (szA szTF (l.take j) (n - l.length)) ∧ s.t 5 = .i .i64 j ∧ 0 ≤ szA szTF (l.take j) (n - l.length) ∧ s.H = lk [(1, [])]) [] (by simp) ?_ ?_
  · simp; omega
  · rintro j s hj ⟨q0, q1, q5, h0, qH⟩
    rw [nf_of qH]
    simp [q0, q1, q5]
    refine ⟨fun hlt => ?_, fun hge => ?_⟩
    · have hw : IntKind.i64.wrap (j + 1) = j + 1 := wrap_id (by omega) (by omega)
      obtain ⟨x, hx⟩ := get_some hlt
      have hle := (szA_ok szT_C.le (l.take j) _ h0 (by omega)).1
      have hs : szA szTF (l.take (j + 1)) (n - l.length) = szTF x (szA szTF (l.take j) (n - l.length)) := by
        rw [take_snoc hx, szA_snoc, if_neg (by omega)]
      have hng := szT_C.neg x (szA szTF (l.take j) (n - l.length))
      have hng2 := szA_take szTF l (n - l.length) (j + 1)
      rw [hs] at hng2
      generalize szA szTF (l.take j) (n - l.length) = m at *
      simp [hx, hw, q0, q1, q5]
      refine callW_ms [.ro, .ro] ?_
      simp
      refine callX_of (w76 x m (hd x (List.mem_of_getElem? hx)) (by omega) h0) (by simp) ?_
      simp [hw, q0, q1, q5]
      generalize szTF x m = m' at *
      refine ⟨fun h1 => (hng2 (hng h1)).symm, fun h1 => ⟨hlt, by rw [hs], by rw [hs]; omega⟩⟩
    · obtain rfl : j = l.length := by omega
      simp [q0, q1, q5]
abbrev WorldP := List Int × List Int × List TableP × List ValP
def szWF : WorldP → Int → Int := szTwo (fun w n => szEntsF w.1 w.2.1 n) (szTwo (fun w n => szS szTF w.2.2.1 n) fun w n => szF n w.2.2.2.length)
def cW (w : WorldP) : Nat := (w.1.length + w.2.1.length) + ((w.2.2.1.length + sumN cT w.2.2.1) + w.2.2.2.length)
theorem szE_C : SzC (fun (w : WorldP) n => szEntsF w.1 w.2.1 n) (fun w => w.1.length + w.2.1.length) :=
  szTwo_C (f := fun (w : WorldP) n => szF n w.1.length) (g := fun (w : WorldP) n => szF n w.2.1.length) (szF_C _) (szF_C _)
theorem szW_C : SzC szWF cW := by
  have h3 : SzC (fun (w : WorldP) n => szS szTF w.2.2.1 n) (fun w => w.2.2.1.length + sumN cT w.2.2.1) :=
    ⟨fun w m h => (szS_C szT_C).le w.2.2.1 m h, fun w m h => (szS_C szT_C).neg w.2.2.1 m h, fun w m h0 h => (szS_C szT_C).eq w.2.2.1 m h0 h⟩
  exact szTwo_C szE_C (szTwo_C h3 (szF_C _))
def bdW (w : WorldP) : Prop := w.1.length < 2^63 ∧ w.2.1.length < 2^63 ∧ (w.2.2.1.length < 2^63 ∧ ∀ t ∈ w.2.2.1, bdT t) ∧ w.2.2.2.length < 2^63
theorem w8 (w : WorldP) (n : Int) (hb : bdW w) (hn : n < 2^62) (hn0 : 0 ≤ n) : Contract Try.prog false 8 [.ro, .ro] [worldR w.1 w.2.1 w.2.2.1 w.2.2.2, .i .i64 n] [.i .i64 (szWF w n)] [] := by
  refine mk_contract [] Try.func8 (c := Try.f8.body.get!) (by kernel_rfl) k8 r8 (of_decide_eq_true rfl) fun _ => ?_
  obtain ⟨b1, b2, ⟨b3, b4⟩, b5⟩ := hb
  have e : szWF w n = if szEntsF w.1 w.2.1 n < 0 then -1 else if szS szTF w.2.2.1 (szEntsF w.1 w.2.1 n) < 0 then -1 else szF (szS szTF w.2.2.1 (szEntsF w.1 w.2.1 n)) w.2.2.2.length := rfl
  have hA : szEntsF w.1 w.2.1 n ≤ n := szE_C.le w n hn0
  unfold c8; simp
  refine callW_ms [.ro, .ro] ?_
  simp [entsR]
  refine callX_of (w30 w.1 w.2.1 n b1 b2 hn hn0) (by simp) ?_
  simp
  refine ⟨fun h => ?_, fun h => ?_⟩
  · rw [e, if_pos h]
  rw [if_neg (by omega)] at e
  generalize szEntsF w.1 w.2.1 n = a at *
  have hB : szS szTF w.2.2.1 a ≤ a := (szS_C szT_C).le w.2.2.1 a h
  refine callW_ms [.ro, .ro] ?_
  simp
  refine callX_of (w31 w.2.2.1 a b3 b4 (by omega) h) (by simp) ?_
  simp
  refine ⟨fun h => ?_, fun h => ?_⟩
  · rw [e, if_pos h]
  rw [if_neg (by omega)] at e
  generalize szS szTF w.2.2.1 a = b at *
  refine callW_ms [.ro, .ro] ?_
  simp
  refine callX_of (w32 w.2.2.2 b b5 (by omega) h) (by simp) ?_
  simp
  rw [e]
  exact ⟨fun h => (szF_neg _ _ h).symm, fun _ => rfl⟩

/-! ### copies -/
theorem w116 (l : List (Int × Int)) (hl : l.length ≤ 2^40) : Contract Try.prog false 116 [.ro] [.sl false 2 (l.map eT)] [.sl true 2 (l.map eT)] [] := by
  refine mk_contract [] Try.func116 (c := Try.f116.body.get!) (by kernel_rfl) k116 r116 (of_decide_eq_true rfl) fun _ => ?_
  unfold c116; simp
  refine ⟨by omega, ?_⟩
  refine twp_for l.length (fun j s => s.t 0 = .sl false 2 (l.map eT) ∧ s.t 3 = .rf [(9, 0)] 0 l.length ∧ s.t 4 = .i .i64 j ∧ s.H = lk [(1, []), (9, [.sl true 2 ((l.map eT).take j ++ List.replicate (l.length - j) [.i .i64 0, .i .i64 0])])]) [] (by simp) ?_ ?_
  · simp
  · rintro j s hj ⟨q0, q3, q4, qH⟩
    rw [nf_of qH]
    simp [q0, q3, q4]
    refine ⟨fun hlt => ?_, fun hge => ?_⟩
    · have hw : IntKind.i64.wrap (j + 1) = j + 1 := wrap_id (by omega) (by omega)
      obtain ⟨x, hx⟩ := get_some hlt
      have hmin : min j l.length = j := by omega
      simp [hx, hw, q0, q3, q4]
      refine callW_ms [.ro] ?_
      simp [entT]
      refine callX_of (w16 x.1 x.2) (by simp) ?_
      simp [entT, hw, q0, q3, q4, rep_at hlt, mapsnoc hx, hmin]
      omega
    · obtain rfl : j = l.length := by omega
      simp [q0, q3, q4]
theorem w117 (l : List (List ValP)) (hl : l.length ≤ 2^40) (hd : ∀ v ∈ l, v.length ≤ 2^40) : Contract Try.prog false 117 [.ro] [.sl false 1 (l.map cvT)] [.sl true 1 (l.map cvO)] [] := by
  refine mk_contract [] Try.func117 (c := Try.f117.body.get!) (by kernel_rfl) k117 r117 (of_decide_eq_true rfl) fun _ => ?_
  unfold c117; simp
  refine ⟨by omega, ?_⟩
  refine twp_for l.length (fun j s => s.t 0 = .sl false 1 (l.map cvT) ∧ s.t 3 = .rf [(9, 0)] 0 l.length ∧ s.t 4 = .i .i64 j ∧ s.H = lk [(1, []), (9, [.sl true 1 ((l.map cvO).take j ++ List.replicate (l.length - j) [.sl true 4 []])])]) [22] (by simp) ?_ ?_
  · simp
  · rintro j s hj ⟨q0, q3, q4, qH⟩
    rw [nf_of qH]
    simp [q0, q3, q4]
    refine ⟨fun hlt => ?_, fun hge => ?_⟩
    · have hw : IntKind.i64.wrap (j + 1) = j + 1 := wrap_id (by omega) (by omega)
      obtain ⟨x, hx⟩ := get_some hlt
      have hmin : min j l.length = j := by omega
      simp [hx, hw, q0, q3, q4]
      refine callW_ms [.ro] ?_
      simp
      refine callX_of (w42 x (hd x (List.mem_of_getElem? hx))) (by simp) ?_
      simp [hw, q0, q3, q4, rep_at hlt, mapsnoc hx, hmin]
      omega
    · obtain rfl : j = l.length := by omega
      simp [q0, q3, q4]
def okT (t : TableP) : Prop := t.1.length ≤ 2^36 ∧ t.2.1.length ≤ 2^36 ∧ t.2.2.length ≤ 2^36 ∧ ∀ v ∈ t.2.2, v.length ≤ 2^36
theorem w82 (t : TableP) (h : okT t) : Contract Try.prog false 82 [.ro] [tableR t] [tableO t] [] := by
  refine mk_contract [] Try.func82 (c := Try.f82.body.get!) (by kernel_rfl) k82 r82 (of_decide_eq_true rfl) fun _ => ?_
  obtain ⟨h1, h2, h3, h4⟩ := h
  unfold c82; simp
  refine callW_ms [.ro] ?_
  simp
  refine callX_of (w63 t.1 (by omega)) (by simp) ?_
  simp
  refine callW_ms [.ro] ?_
  simp
  refine callX_of (w116 t.2.1 (by omega)) (by simp) ?_
  simp
  refine callW_ms [.ro] ?_
  simp
  refine callX_of (w117 t.2.2 (by omega) (fun v hv => by have := h4 v hv; omega)) (by simp) ?_
  simp
theorem w41 (l : List TableP) (hl : l.length ≤ 2^36) (hd : ∀ t ∈ l, okT t) : Contract Try.prog false 41 [.ro] [.sl false 3 (l.map tbT)] [.sl true 3 (l.map tbO)] [] := by
  refine mk_contract [] Try.func41 (c := Try.f41.body.get!) (by kernel_rfl) k41 r41 (of_decide_eq_true rfl) fun _ => ?_
  unfold c41; simp
  refine ⟨by omega, ?_⟩
  refine twp_for l.length (fun j s => s.t 0 = .sl false 3 (l.map tbT) ∧ s.t 3 = .rf [(9, 0)] 0 l.length ∧ s.t 4 = .i .i64 j ∧ s.H = lk [(1, []), (9, [.sl true 3 ((l.map tbO).take j ++ List.replicate (l.length - j) [.sl true 1 [], .sl true 2 [], .sl true 1 []])])]) [22] (by simp) ?_ ?_
  · simp
  · rintro j s hj ⟨q0, q3, q4, qH⟩
    rw [nf_of qH]
    simp [q0, q3, q4]
    refine ⟨fun hlt => ?_, fun hge => ?_⟩
    · have hw : IntKind.i64.wrap (j + 1) = j + 1 := wrap_id (by omega) (by omega)
      obtain ⟨x, hx⟩ := get_some hlt
      have hmin : min j l.length = j := by omega
      simp [hx, hw, q0, q3, q4]
      refine callW_ms [.ro] ?_
      simp
      refine callX_of (w82 x (hd x (List.mem_of_getElem? hx))) (by simp) ?_
      simp [hw, q0, q3, q4, rep_at hlt, mapsnoc hx, hmin]
      omega
    · obtain rfl : j = l.length := by omega
      simp [q0, q3, q4]
def okW (w : WorldP) : Prop := w.1.length ≤ 2^36 ∧ w.2.1.length ≤ 2^36 ∧ (w.2.2.1.length ≤ 2^36 ∧ ∀ t ∈ w.2.2.1, okT t) ∧ w.2.2.2.length ≤ 2^36
theorem szW_ok {w : WorldP} {n : Int} (h0 : 0 ≤ n) (hn : n ≤ 2^36) (h : ¬ szWF w n < 0) : okW w ∧ (cW w : Int) ≤ n := by
  have e := szW_C.eq w n h0 (by omega)
  have hc : (cW w : Int) ≤ n := by omega
  refine ⟨⟨?_, ?_, ⟨?_, fun t ht => ?_⟩, ?_⟩, hc⟩
  · unfold cW at hc; omega
  · unfold cW at hc; omega
  · unfold cW at hc; omega
  · have h1 := sumN_mem (c := cT) ht
    have h2 : cT t ≤ 2^36 := by unfold cW at hc; omega
    refine ⟨?_, ?_, ?_, fun v hv => ?_⟩
    · unfold cT at h2; omega
    · unfold cT at h2; omega
    · unfold cT at h2; omega
    · have h3 : v.length ≤ sumN (fun v : List ValP => v.length) t.2.2 := sumN_mem (c := fun v : List ValP => v.length) hv
      unfold cT at h2; omega
  · unfold cW at hc; omega
theorem w11 (w : WorldP) (h : okW w) : Contract Try.prog false 11 [.ro] [worldR w.1 w.2.1 w.2.2.1 w.2.2.2] [worldO w.1 w.2.1 w.2.2.1 w.2.2.2] [] := by
  refine mk_contract [] Try.func11 (c := Try.f11.body.get!) (by kernel_rfl) k11 r11 (of_decide_eq_true rfl) fun _ => ?_
  obtain ⟨h1, h2, ⟨h3, h4⟩, h5⟩ := h
  unfold c11; simp
  refine callW_ms [.ro] ?_
  simp [entsR]
  refine callX_of (w40 w.1 w.2.1 (by omega) (by omega)) (by simp) ?_
  simp [entsO]
  refine callW_ms [.ro] ?_
  simp
  refine callX_of (w41 w.2.2.1 h3 h4) (by simp) ?_
  simp
  refine callW_ms [.ro] ?_
  simp
  refine callX_of (w42 w.2.2.2 (by omega)) (by simp) ?_
  simp

/-! ### sameness -/
theorem w123 (l : List (List ValP)) (hl : l.length ≤ 2^40) (hd : ∀ v ∈ l, v.length ≤ 2^40) : Contract Try.prog false 123 [.ro, .ro] [.sl false 1 (l.map cvT), .sl false 1 (l.map cvT)] [.b true] [] := by
  refine mk_contract [] Try.func123 (c := Try.f123.body.get!) (by kernel_rfl) k123 r123 (of_decide_eq_true rfl) fun _ => ?_
  unfold c123; simp
  refine twp_for l.length (fun j s => s.t 0 = .sl false 1 (l.map cvT) ∧ s.t 1 = .sl false 1 (l.map cvT) ∧ s.t 5 = .i .i64 j ∧ s.H = lk [(1, [])]) [] (by simp) ?_ ?_
  · simp
  · rintro j s hj ⟨q0, q1, q5, qH⟩
    rw [nf_of qH]
    simp [q0, q1, q5]
    intro hlt
    have hw : IntKind.i64.wrap (j + 1) = j + 1 := wrap_id (by omega) (by omega)
    obtain ⟨x, hx⟩ := get_some hlt
    simp [hx, hw, q0, q1, q5]
    refine callW_ms [.ro, .ro] ?_
    simp
    refine callX_of (w52 x (hd x (List.mem_of_getElem? hx))) (by simp) ?_
    simp [hw, q0, q1, q5]
    exact hlt
theorem w93 (t : TableP) (h : okT t) : Contract Try.prog false 93 [.ro, .ro] [tableR t, tableR t] [.b true] [] := by
  refine mk_contract [] Try.func93 (c := Try.f93.body.get!) (by kernel_rfl) k93 r93 (of_decide_eq_true rfl) fun _ => ?_
  obtain ⟨h1, h2, h3, h4⟩ := h
  unfold c93; simp
  refine callW_ms [.ro, .ro] ?_
  simp
  refine callX_of (w66 t.1 t.1 (by omega) (by omega)) (by simp) ?_
  simp
  refine callW_ms [.ro, .ro] ?_
  simp
  refine callX_of (w122 t.2.1 t.2.1 (by omega) (by omega)) (by simp) ?_
  simp
  refine callW_ms [.ro, .ro] ?_
  simp
  refine callX_of (w123 t.2.2 (by omega) (fun v hv => by have := h4 v hv; omega)) (by simp) ?_
  simp
theorem w51 (l : List TableP) (hl : l.length ≤ 2^36) (hd : ∀ t ∈ l, okT t) : Contract Try.prog false 51 [.ro, .ro] [.sl false 3 (l.map tbT), .sl false 3 (l.map tbT)] [.b true] [] := by
  refine mk_contract [] Try.func51 (c := Try.f51.body.get!) (by kernel_rfl) k51 r51 (of_decide_eq_true rfl) fun _ => ?_
  unfold c51; simp
  refine twp_for l.length (fun j s => s.t 0 = .sl false 3 (l.map tbT) ∧ s.t 1 = .sl false 3 (l.map tbT) ∧ s.t 5 = .i .i64 j ∧ s.H = lk [(1, [])]) [] (by simp) ?_ ?_
  · simp
  · rintro j s hj ⟨q0, q1, q5, qH⟩
    rw [nf_of qH]
    simp [q0, q1, q5]
    intro hlt
    have hw : IntKind.i64.wrap (j + 1) = j + 1 := wrap_id (by omega) (by omega)
    obtain ⟨x, hx⟩ := get_some hlt
    simp [hx, hw, q0, q1, q5]
    refine callW_ms [.ro, .ro] ?_
    simp
    refine callX_of (w93 x (hd x (List.mem_of_getElem? hx))) (by simp) ?_
    simp [hw, q0, q1, q5]
    exact hlt
theorem w14 (w : WorldP) (h : okW w) : Contract Try.prog false 14 [.ro, .ro] [worldR w.1 w.2.1 w.2.2.1 w.2.2.2, worldR w.1 w.2.1 w.2.2.1 w.2.2.2] [.b true] [] := by
  refine mk_contract [] Try.func14 (c := Try.f14.body.get!) (by kernel_rfl) k14 r14 (of_decide_eq_true rfl) fun _ => ?_
  obtain ⟨h1, h2, ⟨h3, h4⟩, h5⟩ := h
  unfold c14; simp
  refine callW_ms [.ro, .ro] ?_
  simp [entsR]
  refine callX_of (w50 w.1 w.2.1 w.1 w.2.1 (by omega) (by omega) (by omega) (by omega)) (by simp) ?_
  simp
  refine callW_ms [.ro, .ro] ?_
  simp
  refine callX_of (w51 w.2.2.1 h3 h4) (by simp) ?_
  simp
  refine callW_ms [.ro, .ro] ?_
  simp
  refine callX_of (w52 w.2.2.2 (by omega)) (by simp) ?_
  simp
end Go.Proofs.YtehmdblkkpdmoaaT

/- Regs: kinds and places. -/
namespace Go.Proofs.YtehmdblkkpdmoaaT
set_option linter.unusedVariables false
set_option linter.unusedSimpArgs false
open Go


def sortL (c r e : List (ByteArray × Int)) (s : Int) : List (ByteArray × Int) := if s = 1 then c else if s = 2 then r else if s = 3 then e else []
def sortR (c r e : List (ByteArray × Int)) (s : Int) : TV := if s = 1 then .sl false 2 (c.map dT) else if s = 2 then .sl false 2 (r.map dT) else if s = 3 then .sl false 2 (e.map dT) else .sl true 2 []
theorem sortR_cases (c r e : List (ByteArray × Int)) (s : Int) : (sortR c r e s = .sl true 2 [] ∧ sortL c r e s = []) ∨ sortR c r e s = .sl false 2 ((sortL c r e s).map dT) := by
  unfold sortR sortL
  split
  · exact .inr rfl
  · split
    · exact .inr rfl
    · split
      · exact .inr rfl
      · exact .inl ⟨rfl, rfl⟩
theorem sortL_len {c r e : List (ByteArray × Int)} {k : Nat} (s : Int) (hc : c.length ≤ k) (hr : r.length ≤ k) (he : e.length ≤ k) : (sortL c r e s).length ≤ k := by
  unfold sortL; split
  · exact hc
  · split
    · exact hr
    · split
      · exact he
      · simp
def kindF (L : List (ByteArray × Int)) (a : Int) : Int := if 0 ≤ a ∧ a ≤ (L.length : Int) - 1 then ((L[a.toNat]?).map (·.2)).getD 0 else 0
def nameIs (x : ByteArray) (d : ByteArray × Int) : Bool := decide (d.1 = x)
end Go.Proofs.YtehmdblkkpdmoaaT

/- Where. -/
namespace Go.Proofs.YtehmdblkkpdmoaaT
set_option linter.unusedVariables false
set_option linter.unusedSimpArgs false
open Go

/- slices.Index[[]impl.Ent,impl.Ent] -/
def c124 : TCode := (.seq (.ops [⟨(some 3), 5, .box 2 (.t 1), none, []⟩, ⟨(some 4), 6, .mv (.c (.i .i64 0)), none, []⟩])
  (.seq (.seq (.ops [⟨(some 6), 8, .mv (.t 0), none, []⟩, ⟨(some 7), 9, .len false (.t 6), none, []⟩, ⟨(some 8), 10, .mv (.c (.i .i64 0)), none, []⟩])
  (.block 0 (.loop (.seq (.ops [⟨(some 9), 11, .bin .lss (.t 8) (.t 7), none, []⟩])
  (.seq (.cond (.t 9)
  .skip
  (.exit 0))
  (.seq (.block 1 (.seq (.ops [⟨(some 10), 12, .mv (.t 8), none, []⟩, ⟨(some 5), 7, .mv (.t 10), none, []⟩])
  (.seq (.draw [⟨(some 11), 13, .load true 2 (.t 3), none, []⟩, ⟨(some 12), 14, .mv (.t 0), none, []⟩, ⟨(some 13), 15, .mv (.t 5), none, []⟩, ⟨(some 14), 16, .iaddr 2 (.t 12) (.t 13), none, []⟩, ⟨(some 15), 17, .load true 2 (.t 14), none, []⟩, ⟨(some 16), 18, .eqs false true [.i, .i] (.t 11) (.t 15), none, []⟩])
  (.cond (.t 16)
  (.seq (.ops [⟨(some 17), 19, .mv (.t 5), none, []⟩, ⟨(some 4), 6, .mv (.t 17), none, []⟩])
  .ret)
  .skip))))
  (.ops [⟨(some 18), 20, .bin .add (.t 8) (.c (.i .i64 1)), none, []⟩, ⟨(some 8), 10, .mv (.t 18), none, []⟩])))))))
  (.seq (.ops [⟨(some 4), 6, .mv (.c (.i .i64 (-1))), none, []⟩])
  .ret)))
theorem k124 : compCode Try.prog Try.f124.ntmps Try.f124.body.get! = some c124 := by kernel_rfl
theorem r124 : resTmps Try.prog Try.f124.results.toList = some [.tmp 4] := by kernel_rfl
/- spec.Where -/
def c54 : TCode := (.seq (.ops [⟨(some 2), 4, .box 4 (.t 0), none, []⟩, ⟨(some 3), 5, .box 2 (.t 1), none, []⟩, ⟨(some 4), 6, .mv (.c (.i .i64 0)), none, []⟩, ⟨(some 5), 7, .mv (.c (.i .i64 0)), none, []⟩])
  (.seq (.seq (.ops [⟨(some 6), 8, .mv (.c (.i .i64 0)), none, []⟩])
  (.block 0 (.loop (.seq (.seq (.ops [⟨(some 8), 10, .mv (.t 6), none, []⟩, ⟨(some 9), 11, .faddr 2 1 (.t 2), none, []⟩, ⟨(some 10), 12, .load false 1 (.t 9), none, []⟩, ⟨(some 11), 13, .len false (.t 10), none, []⟩, ⟨(some 12), 14, .bin .lss (.t 8) (.t 11), none, []⟩])
  (.cond (.t 12)
  .skip
  (.exit 0)))
  (.seq (.block 1 (.seq (.ops [⟨(some 7), 9, .mv (.c (.i .i64 0)), none, []⟩])
  (.block 2 (.loop (.seq (.seq (.ops [⟨(some 15), 17, .mv (.t 7), none, []⟩, ⟨(some 16), 18, .faddr 2 1 (.t 2), none, []⟩, ⟨(some 17), 19, .load false 1 (.t 16), none, []⟩, ⟨(some 18), 20, .mv (.t 6), none, []⟩, ⟨(some 19), 21, .iaddr 3 (.t 17) (.t 18), none, []⟩, ⟨(some 20), 22, .faddr 1 1 (.t 19), none, []⟩, ⟨(some 21), 23, .load false 1 (.t 20), none, []⟩, ⟨(some 22), 24, .len false (.t 21), none, []⟩, ⟨(some 23), 25, .bin .lss (.t 15) (.t 22), none, []⟩])
  (.cond (.t 23)
  .skip
  (.exit 2)))
  (.seq (.block 3 (.seq (.draw [⟨(some 26), 28, .faddr 2 1 (.t 2), none, []⟩, ⟨(some 27), 29, .load false 1 (.t 26), none, []⟩, ⟨(some 28), 30, .mv (.t 6), none, []⟩, ⟨(some 29), 31, .iaddr 3 (.t 27) (.t 28), none, []⟩, ⟨(some 30), 32, .faddr 1 1 (.t 29), none, []⟩, ⟨(some 31), 33, .load false 1 (.t 30), none, []⟩, ⟨(some 32), 34, .mv (.t 7), none, []⟩, ⟨(some 33), 35, .iaddr 2 (.t 31) (.t 32), none, []⟩, ⟨(some 34), 36, .load true 2 (.t 33), none, []⟩, ⟨(some 35), 37, .load true 2 (.t 3), none, []⟩, ⟨(some 36), 38, .eqs false true [.i, .i] (.t 34) (.t 35), none, []⟩])
  (.cond (.t 36)
  (.seq (.ops [⟨(some 37), 39, .mv (.t 6), none, []⟩, ⟨(some 38), 40, .mv (.t 7), none, []⟩, ⟨(some 4), 6, .mv (.t 37), none, []⟩, ⟨(some 5), 7, .mv (.t 38), none, []⟩])
  .ret)
  .skip)))
  (.ops [⟨(some 24), 26, .mv (.t 7), none, []⟩, ⟨(some 25), 27, .bin .add (.t 24) (.c (.i .i64 1)), none, []⟩, ⟨(some 7), 9, .mv (.t 25), none, []⟩])))))))
  (.ops [⟨(some 13), 15, .mv (.t 6), none, []⟩, ⟨(some 14), 16, .bin .add (.t 13) (.c (.i .i64 1)), none, []⟩, ⟨(some 6), 8, .mv (.t 14), none, []⟩]))))))
  (.seq (.ops [⟨(some 4), 6, .mv (.c (.i .i64 (-1))), none, []⟩, ⟨(some 5), 7, .mv (.c (.i .i64 (-1))), none, []⟩])
  .ret)))
theorem k54 : compCode Try.prog Try.f54.ntmps Try.f54.body.get! = some c54 := by kernel_rfl
theorem r54 : resTmps Try.prog Try.f54.results.toList = some [.tmp 4, .tmp 5] := by kernel_rfl
/- impl.Where -/
def c94 : TCode := (.seq (.ops [⟨(some 2), 4, .box 4 (.t 0), none, []⟩, ⟨(some 3), 5, .box 2 (.t 1), none, []⟩, ⟨(some 4), 6, .mv (.c (.i .i64 0)), none, []⟩, ⟨(some 5), 7, .mv (.c (.i .i64 0)), none, []⟩])
  (.seq (.seq (.ops [⟨(some 8), 10, .faddr 2 1 (.t 2), none, []⟩, ⟨(some 9), 11, .load false 1 (.t 8), none, []⟩, ⟨(some 10), 12, .len false (.t 9), none, []⟩, ⟨(some 11), 13, .mv (.c (.i .i64 0)), none, []⟩])
  (.block 0 (.loop (.seq (.ops [⟨(some 12), 14, .bin .lss (.t 11) (.t 10), none, []⟩])
  (.seq (.cond (.t 12)
  .skip
  (.exit 0))
  (.seq (.block 1 (.seq (.ops [⟨(some 13), 15, .mv (.t 11), none, []⟩, ⟨(some 6), 8, .mv (.t 13), none, []⟩])
  (.seq (.draw [⟨(some 14), 16, .faddr 2 1 (.t 2), none, []⟩, ⟨(some 15), 17, .load false 1 (.t 14), none, []⟩, ⟨(some 16), 18, .mv (.t 6), none, []⟩, ⟨(some 17), 19, .iaddr 3 (.t 15) (.t 16), none, []⟩, ⟨(some 18), 20, .faddr 1 1 (.t 17), none, []⟩, ⟨(some 19), 21, .load false 1 (.t 18), none, []⟩, ⟨(some 20), 22, .load true 2 (.t 3), none, []⟩, ⟨(some 21), 23, .call 124 [((.t 19), 0), ((.t 20), 0)], none, []⟩, ⟨(some 7), 9, .mv (.t 21), none, []⟩])
  (.seq (.ops [⟨(some 22), 24, .mv (.t 7), none, []⟩, ⟨(some 23), 25, .bin .geq (.t 22) (.c (.i .i64 0)), none, []⟩])
  (.cond (.t 23)
  (.seq (.ops [⟨(some 24), 26, .mv (.t 6), none, []⟩, ⟨(some 25), 27, .mv (.t 7), none, []⟩, ⟨(some 4), 6, .mv (.t 24), none, []⟩, ⟨(some 5), 7, .mv (.t 25), none, []⟩])
  .ret)
  .skip)))))
  (.ops [⟨(some 26), 28, .bin .add (.t 11) (.c (.i .i64 1)), none, []⟩, ⟨(some 11), 13, .mv (.t 26), none, []⟩])))))))
  (.seq (.ops [⟨(some 4), 6, .mv (.c (.i .i64 (-1))), none, []⟩, ⟨(some 5), 7, .mv (.c (.i .i64 (-1))), none, []⟩])
  .ret)))
theorem k94 : compCode Try.prog Try.f94.ntmps Try.f94.body.get! = some c94 := by kernel_rfl
theorem r94 : resTmps Try.prog Try.f94.results.toList = some [.tmp 4, .tmp 5] := by kernel_rfl

def isE (e : Int × Int) (r : Int × Int) : Bool := decide (r = e)
def noI (e : Int × Int) (l : List (Int × Int)) : Prop := ∀ y ∈ l, isE e y = false
@[simp] theorem noI_nil (e : Int × Int) : noI e [] := fun y h => by cases h
def noE (e : Int × Int) (ts : List TableP) : Prop := ∀ t ∈ ts, ¬ 0 ≤ idxP (isE e) t.2.1
@[simp] theorem noE_nil (e : Int × Int) : noE e [] := fun y h => by cases h
theorem noE_snoc {e : Int × Int} {ts : List TableP} {t : TableP} {j : Nat} (h : noE e (ts.take j)) (ht : ts[j]? = some t) (hi : idxP (isE e) t.2.1 < 0) : noE e (ts.take (j + 1)) := by
  intro z hz
  rw [take_snoc ht] at hz
  rcases List.mem_append.1 hz with h' | h'
  · exact h z h'
  · simp at h'; subst h'; omega
/-- The table and the row of a thing. -/
def whereG (e : Int × Int) : List TableP → Nat → Int × Int
  | [], _ => (-1, -1)
  | t :: ts, i => if 0 ≤ idxP (isE e) t.2.1 then ((i : Int), idxP (isE e) t.2.1) else whereG e ts (i + 1)
theorem whereG_end {e : Int × Int} {i : Nat} {ts : List TableP} (h : ∀ t ∈ ts, ¬ 0 ≤ idxP (isE e) t.2.1) : whereG e ts i = (-1, -1) := by
  induction ts generalizing i with
  | nil => rfl
  | cons t ts ih =>
    simp only [whereG, if_neg (h t List.mem_cons_self)]
    exact ih fun t ht => h t (List.mem_cons_of_mem _ ht)
theorem whereG_at {e : Int × Int} {t : TableP} : ∀ {j : Nat} {i : Nat} {ts : List TableP}, (∀ t ∈ ts.take j, ¬ 0 ≤ idxP (isE e) t.2.1) → ts[j]? = some t → 0 ≤ idxP (isE e) t.2.1 → whereG e ts i = (((i + j : Nat) : Int), idxP (isE e) t.2.1)
  | 0, i, t0 :: ts, h, ht, hp => by
    simp only [List.getElem?_cons_zero, Option.some.injEq] at ht; subst ht
    simp only [whereG, if_pos hp, Nat.add_zero]
  | j + 1, i, t0 :: ts, h, ht, hp => by
    simp only [whereG, if_neg (h t0 (by simp))]
    rw [whereG_at (j := j) (fun t ht => h t (by simp only [List.take_succ_cons]; exact List.mem_cons_of_mem _ ht)) (by simpa using ht) hp]
    congr 2; omega
  | 0, i, [], h, ht, hp => by simp at ht
  | j + 1, i, [], h, ht, hp => by simp at ht
theorem w124 (l : List (Int × Int)) (e : Int × Int) (hl : l.length ≤ 2^40) : Contract Try.prog false 124 [.ro, .ro] [.sl false 2 (l.map eT), .ag (eT e)] [.i .i64 (idxP (isE e) l)] [] := by
  refine mk_contract [] Try.func124 (c := Try.f124.body.get!) (by kernel_rfl) k124 r124 (of_decide_eq_true rfl) fun _ => ?_
  unfold c124; simp
  refine twp_for l.length (fun j s => s.t 0 = .sl false 2 (l.map eT) ∧ s.t 3 = .pt [(5, 0)] 0 0 ∧ s.t 7 = .i .i64 l.length ∧ s.t 8 = .i .i64 j ∧ noI e (l.take j) ∧ s.H = lk [(1, []), (5, [.po true (eT e)])]) [] (by simp) ?_ ?_
  · simp
  · rintro j s hj ⟨q0, q3, q7, q8, hn, qH⟩
    rw [nf_of qH]
    simp [q0, q3, q7, q8]
    refine ⟨fun hlt => ?_, fun hge => ?_⟩
    · have hw : IntKind.i64.wrap (j + 1) = j + 1 := wrap_id (by omega) (by omega)
      obtain ⟨y, hy⟩ := get_some hlt
      simp [hy, hw, q0, q3, q7, q8]
      by_cases hey : y = e
      · subst hey
        simp [hw, q0, q3, q7, q8]
        exact (idxP_at hy (by simp [isE]) hn).symm
      · have hne : (decide (e.1 = y.1) && decide (e.2 = y.2)) = false := by
          rw [Bool.eq_false_iff]; intro h
          simp only [Bool.and_eq_true, decide_eq_true_eq] at h
          exact hey (Prod.ext h.1.symm h.2.symm)
        have hs : noI e (l.take (j + 1)) := by
          intro z hz
          rw [take_snoc hy] at hz
          rcases List.mem_append.1 hz with h | h
          · exact hn z h
          · simp at h; subst h; simp [isE, hey]
        simp [hne, hw, q0, q3, q7, q8]
        exact ⟨hlt, hs⟩
    · obtain rfl : j = l.length := by omega
      rw [List.take_of_length_le (Nat.le_refl _)] at hn
      exact (idxP_none hn).symm
theorem w94 (w : WorldP) (e : Int × Int) (h : okW w) : Contract Try.prog false 94 [.ro, .ro] [worldR w.1 w.2.1 w.2.2.1 w.2.2.2, .ag (eT e)] [.i .i64 (whereG e w.2.2.1 0).1, .i .i64 (whereG e w.2.2.1 0).2] [] := by
  refine mk_contract [] Try.func94 (c := Try.f94.body.get!) (by kernel_rfl) k94 r94 (of_decide_eq_true rfl) fun _ => ?_
  obtain ⟨h1, h2, ⟨h3, h4⟩, h5⟩ := h
  obtain ⟨g, f, ts, rs⟩ := w
  simp only at h1 h2 h3 h4 h5 ⊢
  unfold c94; simp
  refine twp_for ts.length (fun j s => s.t 2 = .pt [(4, 0)] 0 0 ∧ s.t 3 = .pt [(5, 0)] 0 0 ∧ s.t 10 = .i .i64 ts.length ∧ s.t 11 = .i .i64 j ∧ noE e (ts.take j) ∧ s.H = lk [(1, []), (4, [.po true [.sl false 1 (g.map iT), .sl false 1 (f.map iT), .sl false 3 (ts.map tbT), .sl false 4 (rs.map vT)]]), (5, [.po true (eT e)])]) [] (by simp) ?_ ?_
  · simp
  · rintro j s hj ⟨q2, q3, q10, q11, hn, qH⟩
    rw [nf_of qH]
    simp [q2, q3, q10, q11]
    refine ⟨fun hlt => ?_, fun hge => ?_⟩
    · have hw : IntKind.i64.wrap (j + 1) = j + 1 := wrap_id (by omega) (by omega)
      obtain ⟨t, ht⟩ := get_some hlt
      have hm := List.mem_of_getElem? ht
      simp [ht, hw, q2, q3, q10, q11]
      refine callW_ms [.ro, .ro] ?_
      simp
      refine callX_of (w124 t.2.1 e (by have := (h4 t hm).2.1; omega)) (by simp) ?_
      simp [hw, q2, q3, q10, q11]
      refine ⟨fun hp => ?_, fun hp => ⟨hlt, noE_snoc hn ht hp⟩⟩
      rw [whereG_at hn ht hp]; simp
    · obtain rfl : j = ts.length := by omega
      rw [List.take_of_length_le (Nat.le_refl _)] at hn
      rw [whereG_end hn]; simp
theorem idxP_take {e : Int × Int} {l : List (Int × Int)} : idxP (isE e) l < 0 ↔ noI e l := by
  constructor
  · intro h z hz
    cases hb : isE e z with
    | false => rfl
    | true => have := (idxP_ge (p := isE e) (l := l)).2 ⟨z, hz, hb⟩; omega
  · intro h; rw [idxP_none h]; omega
theorem w54 (w : WorldP) (e : Int × Int) (h : okW w) : Contract Try.prog false 54 [.ro, .ro] [worldR w.1 w.2.1 w.2.2.1 w.2.2.2, .ag (eT e)] [.i .i64 (whereG e w.2.2.1 0).1, .i .i64 (whereG e w.2.2.1 0).2] [] := by
  refine mk_contract [] Try.func54 (c := Try.f54.body.get!) (by kernel_rfl) k54 r54 (of_decide_eq_true rfl) fun _ => ?_
  obtain ⟨h1, h2, ⟨h3, h4⟩, h5⟩ := h
  obtain ⟨g, f, ts, rs⟩ := w
  simp only at h1 h2 h3 h4 h5 ⊢
  unfold c54; simp
  refine twp_for ts.length (fun j s => s.t 2 = .pt [(4, 0)] 0 0 ∧ s.t 3 = .pt [(5, 0)] 0 0 ∧ s.t 6 = .i .i64 j ∧ noE e (ts.take j) ∧ s.H = lk [(1, []), (4, [.po true [.sl false 1 (g.map iT), .sl false 1 (f.map iT), .sl false 3 (ts.map tbT), .sl false 4 (rs.map vT)]]), (5, [.po true (eT e)])]) [] (by simp) ?_ ?_
  · simp
  · rintro j s hj ⟨q2, q3, q6, hn, qH⟩
    rw [nf_of qH]
    simp [q2, q3, q6]
    refine ⟨fun hlt => ?_, fun hge => ?_⟩
    · have hw : IntKind.i64.wrap (j + 1) = j + 1 := wrap_id (by omega) (by omega)
      obtain ⟨t, ht⟩ := get_some hlt
      have hm := List.mem_of_getElem? ht
      have hl := (h4 t hm).2.1
      refine twp_for t.2.1.length (fun i s2 => s2.t 2 = .pt [(4, 0)] 0 0 ∧ s2.t 3 = .pt [(5, 0)] 0 0 ∧ s2.t 6 = .i .i64 j ∧ s2.t 7 = .i .i64 i ∧ noI e (t.2.1.take i) ∧ s2.H = lk [(1, []), (4, [.po true [.sl false 1 (g.map iT), .sl false 1 (f.map iT), .sl false 3 (ts.map tbT), .sl false 4 (rs.map vT)]]), (5, [.po true (eT e)])]) [] (by simp) ?_ ?_
      · simp [q2, q3, q6]
      · rintro i s2 hi ⟨p2, p3, p6, p7, hni, pH⟩
        rw [nf_of pH]
        simp [p2, p3, p6, p7]
        simp [ht]
        refine ⟨fun hlt2 => ?_, fun hge2 => ?_⟩
        · have hwi : IntKind.i64.wrap (i + 1) = i + 1 := wrap_id (by omega) (by omega)
          obtain ⟨y, hy⟩ := get_some hlt2
          simp [ht, hy, p2, p3, p6, p7]
          by_cases hey : y = e
          · subst hey
            have hx := idxP_at hy (by simp [isE]) hni
            simp [p2, p3, p6, p7]
            rw [whereG_at hn ht (by omega), hx]; simp
          · have hne : (decide (y.1 = e.1) && decide (y.2 = e.2)) = false := by
              rw [Bool.eq_false_iff]; intro h
              simp only [Bool.and_eq_true, decide_eq_true_eq] at h
              exact hey (Prod.ext h.1 h.2)
            have hs : noI e (t.2.1.take (i + 1)) := by
              intro z hz
              rw [take_snoc hy] at hz
              rcases List.mem_append.1 hz with h | h
              · exact hni z h
              · simp at h; subst h; simp [isE, hey]
            simp [hne, hwi, p2, p3, p6, p7]
            exact ⟨hlt2, hs⟩
        · obtain rfl : i = t.2.1.length := by omega
          rw [List.take_of_length_le (Nat.le_refl _)] at hni
          simp [p2, p3, p6, p7, hw]
          exact ⟨hlt, noE_snoc hn ht (idxP_take.2 hni)⟩
    · obtain rfl : j = ts.length := by omega
      rw [List.take_of_length_le (Nat.le_refl _)] at hn
      rw [whereG_end hn]; simp
end Go.Proofs.YtehmdblkkpdmoaaT

/- Streams: right, turned, sent to, read. -/
namespace Go.Proofs.YtehmdblkkpdmoaaT
set_option linter.unusedVariables false
set_option linter.unusedSimpArgs false
open Go

/- laws.szStream -/
def c96 : TCode := (.seq (.ops [⟨(some 2), 4, .box 3 (.t 0), none, []⟩, ⟨(some 4), 6, .mv (.c (.i .i64 0)), none, []⟩])
  (.seq (.ops [⟨(some 5), 7, .faddr 1 1 (.t 2), none, []⟩, ⟨(some 6), 8, .load false 1 (.t 5), none, []⟩, ⟨(some 7), 9, .mv (.t 1), none, []⟩, ⟨(some 8), 10, .call 32 [((.t 6), 0), ((.t 7), 0)], none, []⟩, ⟨(some 1), 3, .mv (.t 8), none, []⟩])
  (.seq (.seq (.ops [⟨(some 9), 11, .mv (.t 1), none, []⟩, ⟨(some 10), 12, .bin .lss (.t 9) (.c (.i .i64 0)), none, []⟩])
  (.cond (.t 10)
  (.seq (.ops [⟨(some 4), 6, .mv (.c (.i .i64 (-1))), none, []⟩])
  .ret)
  .skip))
  (.seq (.ops [⟨(some 11), 13, .faddr 2 1 (.t 2), none, []⟩, ⟨(some 12), 14, .load false 1 (.t 11), none, []⟩, ⟨(some 13), 15, .mv (.t 1), none, []⟩, ⟨(some 14), 16, .call 32 [((.t 12), 0), ((.t 13), 0)], none, []⟩, ⟨(some 1), 3, .mv (.t 14), none, []⟩])
  (.seq (.seq (.ops [⟨(some 15), 17, .mv (.t 1), none, []⟩, ⟨(some 16), 18, .bin .lss (.t 15) (.c (.i .i64 0)), none, []⟩])
  (.cond (.t 16)
  (.seq (.ops [⟨(some 4), 6, .mv (.c (.i .i64 (-1))), none, []⟩])
  .ret)
  .skip))
  (.seq (.ops [⟨(some 17), 19, .mv (.t 1), none, []⟩, ⟨(some 4), 6, .mv (.t 17), none, []⟩])
  .ret))))))
theorem k96 : compCode Try.prog Try.f96.ntmps Try.f96.body.get! = some c96 := by kernel_rfl
theorem r96 : resTmps Try.prog Try.f96.results.toList = some [.tmp 4] := by kernel_rfl
/- laws.toStream -/
def c98 : TCode := (.seq (.ops [⟨(some 1), 3, .box 3 (.t 0), none, []⟩, ⟨(some 2), 4, .box 3 (.c (.ag [(.i .i64 0), (.sl true 4 []), (.sl true 4 [])])), none, []⟩])
  (.seq (.ops [⟨(some 3), 5, .box 3 (.c (.ag [(.i .i64 0), (.sl true 4 []), (.sl true 4 [])])), none, []⟩])
  (.seq (.ops [⟨(some 4), 6, .faddr 0 1 (.t 1), none, []⟩, ⟨(some 5), 7, .load false 1 (.t 4), none, []⟩, ⟨(some 6), 8, .faddr 0 1 (.t 3), none, []⟩, ⟨none, 1002003, .store 1 (.t 6) (.t 5), none, []⟩])
  (.seq (.ops [⟨(some 7), 9, .faddr 1 1 (.t 1), none, []⟩, ⟨(some 8), 10, .load false 1 (.t 7), none, []⟩, ⟨(some 9), 11, .call 42 [((.t 8), 0)], none, []⟩, ⟨(some 10), 12, .faddr 1 1 (.t 3), none, []⟩, ⟨none, 1003004, .store 1 (.t 10) (.t 9), none, []⟩])
  (.seq (.ops [⟨(some 11), 13, .faddr 2 1 (.t 1), none, []⟩, ⟨(some 12), 14, .load false 1 (.t 11), none, []⟩, ⟨(some 13), 15, .call 42 [((.t 12), 0)], none, []⟩, ⟨(some 14), 16, .faddr 2 1 (.t 3), none, []⟩, ⟨none, 1004004, .store 1 (.t 14) (.t 13), none, []⟩])
  (.seq (.ops [⟨(some 15), 17, .load true 3 (.t 3), none, []⟩, ⟨none, 1005001, .store 3 (.t 2) (.t 15), none, []⟩])
  .ret))))))
theorem k98 : compCode Try.prog Try.f98.ntmps Try.f98.body.get! = some c98 := by kernel_rfl
theorem r98 : resTmps Try.prog Try.f98.results.toList = some [.cell 2 true 3] := by kernel_rfl
/- laws.eqStream -/
def c100 : TCode := (.seq (.ops [⟨(some 2), 4, .box 3 (.t 0), none, []⟩, ⟨(some 3), 5, .box 3 (.t 1), none, []⟩, ⟨(some 4), 6, .mv (.c (.b false)), none, []⟩])
  (.seq (.seq (.ops [⟨(some 5), 7, .faddr 0 1 (.t 2), none, []⟩, ⟨(some 6), 8, .load false 1 (.t 5), none, []⟩, ⟨(some 7), 9, .faddr 0 1 (.t 3), none, []⟩, ⟨(some 8), 10, .load false 1 (.t 7), none, []⟩, ⟨(some 9), 11, .bin .neq (.t 6) (.t 8), none, []⟩])
  (.cond (.t 9)
  (.seq (.ops [⟨(some 4), 6, .mv (.c (.b false)), none, []⟩])
  .ret)
  .skip))
  (.seq (.seq (.ops [⟨(some 10), 12, .faddr 1 1 (.t 2), none, []⟩, ⟨(some 11), 13, .load false 1 (.t 10), none, []⟩, ⟨(some 12), 14, .faddr 1 1 (.t 3), none, []⟩, ⟨(some 13), 15, .load false 1 (.t 12), none, []⟩, ⟨(some 14), 16, .call 52 [((.t 11), 0), ((.t 13), 0)], none, []⟩, ⟨(some 15), 17, .un .not (.t 14), none, []⟩])
  (.cond (.t 15)
  (.seq (.ops [⟨(some 4), 6, .mv (.c (.b false)), none, []⟩])
  .ret)
  .skip))
  (.seq (.seq (.ops [⟨(some 16), 18, .faddr 2 1 (.t 2), none, []⟩, ⟨(some 17), 19, .load false 1 (.t 16), none, []⟩, ⟨(some 18), 20, .faddr 2 1 (.t 3), none, []⟩, ⟨(some 19), 21, .load false 1 (.t 18), none, []⟩, ⟨(some 20), 22, .call 52 [((.t 17), 0), ((.t 19), 0)], none, []⟩, ⟨(some 21), 23, .un .not (.t 20), none, []⟩])
  (.cond (.t 21)
  (.seq (.ops [⟨(some 4), 6, .mv (.c (.b false)), none, []⟩])
  .ret)
  .skip))
  (.seq (.ops [⟨(some 4), 6, .mv (.c (.b true)), none, []⟩])
  .ret)))))
theorem k100 : compCode Try.prog Try.f100.ntmps Try.f100.body.get! = some c100 := by kernel_rfl
theorem r100 : resTmps Try.prog Try.f100.results.toList = some [.tmp 4] := by kernel_rfl
/- impl.isOf -/
def c47 : TCode := (.seq (.ops [⟨(some 2), 4, .box 4 (.t 0), none, []⟩, ⟨(some 4), 6, .mv (.c (.b false)), none, []⟩])
  (.seq (.ops [⟨(some 5), 7, .faddr 0 1 (.t 2), none, []⟩, ⟨(some 6), 8, .load false 1 (.t 5), none, []⟩, ⟨(some 7), 9, .mv (.t 1), none, []⟩, ⟨(some 8), 10, .bin .eql (.t 6) (.t 7), none, []⟩, ⟨(some 9), 11, .mv (.t 8), none, []⟩, ⟨(some 10), 12, .load true 4 (.t 2), (some (9, true)), []⟩, ⟨(some 11), 13, .call 91 [((.t 10), 0)], (some (9, true)), []⟩, ⟨(some 12), 14, .pick (.t 9) (.t 11) (.c (.b false)), none, []⟩, ⟨(some 4), 6, .mv (.t 12), none, []⟩])
  .ret))
theorem k47 : compCode Try.prog Try.f47.ntmps Try.f47.body.get! = some c47 := by kernel_rfl
theorem r47 : resTmps Try.prog Try.f47.results.toList = some [.tmp 4] := by kernel_rfl
/- impl.areOf -/
def c99 : TCode := (.seq (.ops [⟨(some 4), 6, .mv (.c (.b false)), none, []⟩])
  (.seq (.seq (.ops [⟨(some 7), 9, .mv (.t 0), none, []⟩, ⟨(some 8), 10, .len false (.t 7), none, []⟩, ⟨(some 9), 11, .mv (.c (.i .i64 0)), none, []⟩])
  (.block 0 (.loop (.seq (.ops [⟨(some 10), 12, .bin .lss (.t 9) (.t 8), none, []⟩])
  (.seq (.cond (.t 10)
  .skip
  (.exit 0))
  (.seq (.block 1 (.seq (.ops [⟨(some 11), 13, .iaddr 4 (.t 7) (.t 9), none, []⟩, ⟨(some 12), 14, .load true 4 (.t 11), none, []⟩, ⟨(some 6), 8, .box 4 (.c (.ag [(.i .i64 0), (.i .i64 0), (.f 0), (.f 0)])), none, []⟩, ⟨none, 1003003, .store 4 (.t 6) (.t 12), none, []⟩])
  (.seq (.ops [⟨(some 13), 15, .load true 4 (.t 6), none, []⟩, ⟨(some 14), 16, .mv (.t 1), none, []⟩, ⟨(some 15), 17, .call 47 [((.t 13), 0), ((.t 14), 0)], none, []⟩, ⟨(some 16), 18, .un .not (.t 15), none, []⟩])
  (.cond (.t 16)
  (.seq (.ops [⟨(some 4), 6, .mv (.c (.b false)), none, []⟩])
  .ret)
  .skip))))
  (.ops [⟨(some 17), 19, .bin .add (.t 9) (.c (.i .i64 1)), none, []⟩, ⟨(some 9), 11, .mv (.t 17), none, []⟩])))))))
  (.seq (.ops [⟨(some 18), 20, .mv (.t 0), none, []⟩, ⟨(some 19), 21, .len false (.t 18), none, []⟩, ⟨(some 20), 22, .bin .leq (.t 19) (.c (.i .i64 200)), none, []⟩, ⟨(some 4), 6, .mv (.t 20), none, []⟩])
  .ret)))
theorem k99 : compCode Try.prog Try.f99.ntmps Try.f99.body.get! = some c99 := by kernel_rfl
theorem r99 : resTmps Try.prog Try.f99.results.toList = some [.tmp 4] := by kernel_rfl
/- impl.StreamOk -/
def c64 : TCode := (.seq (.ops [⟨(some 3), 5, .box 3 (.t 1), none, []⟩, ⟨(some 4), 6, .mv (.c (.b false)), none, []⟩])
  (.seq (.ops [⟨(some 5), 7, .faddr 0 1 (.t 3), none, []⟩, ⟨(some 6), 8, .load false 1 (.t 5), none, []⟩, ⟨(some 7), 9, .call 87 [((.t 6), 0), ((.c (.i .i64 0)), 0), ((.c (.i .i64 1000000000000)), 0)], none, []⟩, ⟨(some 8), 10, .mv (.t 7), none, []⟩, ⟨(some 9), 11, .faddr 1 1 (.t 3), (some (8, true)), []⟩, ⟨(some 10), 12, .load false 1 (.t 9), (some (8, true)), []⟩, ⟨(some 11), 13, .mv (.t 0), (some (8, true)), []⟩, ⟨(some 12), 14, .call 99 [((.t 10), 0), ((.t 11), 0)], (some (8, true)), []⟩, ⟨(some 13), 15, .pick (.t 8) (.t 12) (.c (.b false)), none, []⟩, ⟨(some 14), 16, .mv (.t 13), none, []⟩, ⟨(some 15), 17, .faddr 2 1 (.t 3), (some (14, true)), []⟩, ⟨(some 16), 18, .load false 1 (.t 15), (some (14, true)), []⟩, ⟨(some 17), 19, .mv (.t 0), (some (14, true)), []⟩, ⟨(some 18), 20, .call 99 [((.t 16), 0), ((.t 17), 0)], (some (14, true)), []⟩, ⟨(some 19), 21, .pick (.t 14) (.t 18) (.c (.b false)), none, []⟩, ⟨(some 4), 6, .mv (.t 19), none, []⟩])
  .ret))
theorem k64 : compCode Try.prog Try.f64.ntmps Try.f64.body.get! = some c64 := by kernel_rfl
theorem r64 : resTmps Try.prog Try.f64.results.toList = some [.tmp 4] := by kernel_rfl
/- spec.l6ValsOk -/
def c97 : TCode := (.seq (.ops [⟨(some 4), 6, .mv (.c (.b false)), none, []⟩])
  (.seq (.seq (.ops [⟨(some 6), 8, .mv (.t 1), none, []⟩, ⟨(some 7), 9, .len false (.t 6), none, []⟩, ⟨(some 8), 10, .bin .gtr (.t 7) (.c (.i .i64 200)), none, []⟩])
  (.cond (.t 8)
  (.seq (.ops [⟨(some 4), 6, .mv (.c (.b false)), none, []⟩])
  .ret)
  .skip))
  (.seq (.seq (.ops [⟨(some 5), 7, .mv (.c (.i .i64 0)), none, []⟩])
  (.block 0 (.loop (.seq (.seq (.ops [⟨(some 9), 11, .mv (.t 5), none, []⟩, ⟨(some 10), 12, .mv (.t 1), none, []⟩, ⟨(some 11), 13, .len false (.t 10), none, []⟩, ⟨(some 12), 14, .bin .lss (.t 9) (.t 11), none, []⟩])
  (.cond (.t 12)
  .skip
  (.exit 0)))
  (.seq (.block 1 (.seq (.ops [⟨(some 15), 17, .mv (.t 1), none, []⟩, ⟨(some 16), 18, .mv (.t 5), none, []⟩, ⟨(some 17), 19, .iaddr 4 (.t 15) (.t 16), none, []⟩, ⟨(some 18), 20, .load true 4 (.t 17), none, []⟩, ⟨(some 19), 21, .call 35 [((.t 18), 0)], none, []⟩, ⟨(some 20), 22, .un .not (.t 19), none, []⟩, ⟨(some 21), 23, .mv (.t 20), none, []⟩, ⟨(some 22), 24, .mv (.t 1), (some (21, false)), []⟩, ⟨(some 23), 25, .mv (.t 5), (some (21, false)), []⟩, ⟨(some 24), 26, .iaddr 4 (.t 22) (.t 23), (some (21, false)), []⟩, ⟨(some 25), 27, .faddr 0 1 (.t 24), (some (21, false)), []⟩, ⟨(some 26), 28, .load false 1 (.t 25), (some (21, false)), []⟩, ⟨(some 27), 29, .mv (.t 0), (some (21, false)), []⟩, ⟨(some 28), 30, .bin .neq (.t 26) (.t 27), (some (21, false)), []⟩, ⟨(some 29), 31, .pick (.t 21) (.c (.b true)) (.t 28), none, []⟩])
  (.cond (.t 29)
  (.seq (.ops [⟨(some 4), 6, .mv (.c (.b false)), none, []⟩])
  .ret)
  .skip)))
  (.ops [⟨(some 13), 15, .mv (.t 5), none, []⟩, ⟨(some 14), 16, .bin .add (.t 13) (.c (.i .i64 1)), none, []⟩, ⟨(some 5), 7, .mv (.t 14), none, []⟩]))))))
  (.seq (.ops [⟨(some 4), 6, .mv (.c (.b true)), none, []⟩])
  .ret))))
theorem k97 : compCode Try.prog Try.f97.ntmps Try.f97.body.get! = some c97 := by kernel_rfl
theorem r97 : resTmps Try.prog Try.f97.results.toList = some [.tmp 4] := by kernel_rfl
/- spec.StreamOk -/
def c61 : TCode := (.seq (.ops [⟨(some 3), 5, .box 3 (.t 1), none, []⟩, ⟨(some 4), 6, .mv (.c (.b false)), none, []⟩])
  (.seq (.ops [⟨(some 5), 7, .faddr 0 1 (.t 3), none, []⟩, ⟨(some 6), 8, .load false 1 (.t 5), none, []⟩, ⟨(some 7), 9, .call 38 [((.t 6), 0), ((.c (.i .i64 0)), 0), ((.c (.i .i64 1000000000000)), 0)], none, []⟩, ⟨(some 8), 10, .mv (.t 7), none, []⟩, ⟨(some 9), 11, .mv (.t 0), (some (8, true)), []⟩, ⟨(some 10), 12, .faddr 1 1 (.t 3), (some (8, true)), []⟩, ⟨(some 11), 13, .load false 1 (.t 10), (some (8, true)), []⟩, ⟨(some 12), 14, .call 97 [((.t 9), 0), ((.t 11), 0)], (some (8, true)), []⟩, ⟨(some 13), 15, .pick (.t 8) (.t 12) (.c (.b false)), none, []⟩, ⟨(some 14), 16, .mv (.t 13), none, []⟩, ⟨(some 15), 17, .mv (.t 0), (some (14, true)), []⟩, ⟨(some 16), 18, .faddr 2 1 (.t 3), (some (14, true)), []⟩, ⟨(some 17), 19, .load false 1 (.t 16), (some (14, true)), []⟩, ⟨(some 18), 20, .call 97 [((.t 15), 0), ((.t 17), 0)], (some (14, true)), []⟩, ⟨(some 19), 21, .pick (.t 14) (.t 18) (.c (.b false)), none, []⟩, ⟨(some 4), 6, .mv (.t 19), none, []⟩])
  .ret))
theorem k61 : compCode Try.prog Try.f61.ntmps Try.f61.body.get! = some c61 := by kernel_rfl
theorem r61 : resTmps Try.prog Try.f61.results.toList = some [.tmp 4] := by kernel_rfl

/-- A stream: first, old, new. -/
abbrev StrP := Int × List ValP × List ValP
def strR (s : StrP) : TV := .ag [.i .i64 s.1, .sl false 4 (s.2.1.map vT), .sl false 4 (s.2.2.map vT)]
def strO (s : StrP) : TV := .ag [.i .i64 s.1, .sl true 4 (s.2.1.map vT), .sl true 4 (s.2.2.map vT)]
def strB (k : Nat) (s : StrP) : Prop := s.2.1.length ≤ k ∧ s.2.2.length ≤ k
def valsF (l : List ValP) : Prop := ∀ v ∈ l, valOkF v
def szStrF (s : StrP) (n : Int) : Int := if szF n s.2.1.length < 0 then -1 else szF (szF n s.2.1.length) s.2.2.length
theorem szStr_ok {s : StrP} {n : Int} {k : Nat} (h0 : 0 ≤ n) (hk : n ≤ k) (h : ¬ szStrF s n < 0) : 0 ≤ szStrF s n ∧ szStrF s n ≤ n ∧ strB k s := by
  unfold szStrF at h ⊢
  split at h
  · omega
  · rename_i h1
    rw [if_neg h1]
    obtain ⟨a1, a2⟩ := szF_pos (by omega : 0 ≤ szF n s.2.1.length)
    obtain ⟨b1, b2⟩ := szF_pos (by omega : 0 ≤ szF (szF n s.2.1.length) s.2.2.length)
    exact ⟨by omega, by omega, by omega, by omega⟩
theorem w96 (s : StrP) (n : Int) (hb : strB 9223372036854775807 s) (hn : n < 2^62) (hn0 : 0 ≤ n) : Contract Try.prog false 96 [.ro, .ro] [strR s, .i .i64 n] [.i .i64 (szStrF s n)] [] := by
  refine mk_contract [] Try.func96 (c := Try.f96.body.get!) (by kernel_rfl) k96 r96 (of_decide_eq_true rfl) fun _ => ?_
  obtain ⟨b1, b2⟩ := hb
  unfold c96; unfold strR szStrF; simp
  refine callW_ms [.ro, .ro] ?_
  simp
  refine callX_of (w32 s.2.1 n (by omega) (by omega) hn0) (by simp) ?_
  simp
  refine ⟨fun h => by intros; omega, fun h => ?_⟩
  have h1 := szF_le n s.2.1.length (by omega) hn0
  refine callW_ms [.ro, .ro] ?_
  simp
  refine callX_of (w32 s.2.2 _ (by omega) (by omega) h) (by simp) ?_
  simp
  have h2 := szF_neg (szF n s.2.1.length) s.2.2.length
  exact ⟨fun h3 _ => (h2 h3).symm, fun h3 h4 => by omega⟩
theorem w98 (s : StrP) (hb : strB (2^40) s) : Contract Try.prog false 98 [.ro] [strR s] [strO s] [] := by
  refine mk_contract [] Try.func98 (c := Try.f98.body.get!) (by kernel_rfl) k98 r98 (of_decide_eq_true rfl) fun _ => ?_
  unfold c98; unfold strR strO; simp
  refine callW_ms [.ro] ?_
  simp
  refine callX_of (w42 s.2.1 hb.1) (by simp) ?_
  simp
  refine callW_ms [.ro] ?_
  simp
  refine callX_of (w42 s.2.2 hb.2) (by simp) ?_
  simp
theorem w100 (s : StrP) (hb : strB (2^40) s) : Contract Try.prog false 100 [.ro, .ro] [strR s, strR s] [.b true] [] := by
  refine mk_contract [] Try.func100 (c := Try.f100.body.get!) (by kernel_rfl) k100 r100 (of_decide_eq_true rfl) fun _ => ?_
  unfold c100; unfold strR; simp
  refine callW_ms [.ro, .ro] ?_
  simp
  refine callX_of (w52 s.2.1 hb.1) (by simp) ?_
  simp
  refine callW_ms [.ro, .ro] ?_
  simp
  refine callX_of (w52 s.2.2 hb.2) (by simp) ?_
  simp
def ofK (k : Int) (v : ValP) : Prop := v.1 = k ∧ ValOkP v
instance (k : Int) (v : ValP) : Decidable (ofK k v) := by unfold ofK; infer_instance
def allOf (k : Int) (l : List ValP) : Prop := (∀ v ∈ l, ofK k v) ∧ l.length ≤ 200
instance (k : Int) (l : List ValP) : Decidable (allOf k l) := by unfold allOf; infer_instance
def StrOkP (k : Int) (s : StrP) : Prop := (0 ≤ s.1 ∧ s.1 ≤ 1000000000000) ∧ allOf k s.2.1 ∧ allOf k s.2.2
instance (k : Int) (s : StrP) : Decidable (StrOkP k s) := by unfold StrOkP; infer_instance
theorem w47 (v : ValP) (k : Int) : Contract Try.prog false 47 [.ro, .ro] [valV v, .i .i64 k] [.b (decide (ofK k v))] [] := by
  refine mk_contract [] Try.func47 (c := Try.f47.body.get!) (by kernel_rfl) k47 r47 (of_decide_eq_true rfl) fun _ => ?_
  obtain ⟨v1, v2⟩ := v
  unfold c47; unfold valV; simp
  by_cases h : v1 = k
  · subst h
    simp
    refine callW_ms [.ro] ?_
    simp
    refine callX_of (w91 (v1, v2)) (by simp) ?_
    simp [ofK]
  · simp [h, ofK]
theorem allOf_take {k : Int} {l : List ValP} (h : allOf k l) (x : ValP) (hx : x ∈ l) : ofK k x := h.1 x hx
theorem w99 (l : List ValP) (k : Int) (hl : l.length ≤ 2^40) : Contract Try.prog false 99 [.ro, .ro] [.sl false 4 (l.map vT), .i .i64 k] [.b (decide (allOf k l))] [] := by
  refine mk_contract [] Try.func99 (c := Try.f99.body.get!) (by kernel_rfl) k99 r99 (of_decide_eq_true rfl) fun _ => ?_
  unfold c99; simp
  refine twp_for l.length (fun j s => s.t 0 = .sl false 4 (l.map vT) ∧ s.t 1 = .i .i64 k ∧ s.t 7 = .sl false 4 (l.map vT) ∧ s.t 8 = .i .i64 l.length ∧ s.t 9 = .i .i64 j ∧ (∀ v ∈ l.take j, ofK k v) ∧ s.H = lk [(1, [])]) [8] (by simp) ?_ ?_
  · simp
  · rintro j s hj ⟨q0, q1, q7, q8, q9, hok, qH⟩
    rw [nf_of qH]
    simp [q0, q1, q7, q8, q9]
    refine ⟨fun hlt => ?_, fun hge => ?_⟩
    · have hw : IntKind.i64.wrap (j + 1) = j + 1 := wrap_id (by omega) (by omega)
      obtain ⟨x, hx⟩ := get_some hlt
      have hxm := List.mem_of_getElem? hx
      simp [hx, hw, q0, q1, q7, q8, q9]
      by_cases h : ofK k x
      · refine callW_ms [.ro, .ro] ?_
        simp [valV]
        refine callX_of ((w47 x k).t h) (by simp) ?_
        simp [hw, q0, q1, q7, q8, q9]
        refine ⟨hlt, fun a b c d hv => ?_⟩
        rw [take_snoc hx, List.mem_append, List.mem_singleton] at hv
        rcases hv with hv | rfl
        · exact hok _ hv
        · exact h
      · refine callW_ms [.ro, .ro] ?_
        simp [valV]
        refine callX_of ((w47 x k).f h) (by simp) ?_
        simp [hw, q0, q1, q7, q8, q9]
        intro h2; exact h (h2.1 x hxm)
    · obtain rfl : j = l.length := by omega
      rw [List.take_of_length_le (Nat.le_refl _)] at hok
      have hE : allOf k l ↔ (l.length : Int) ≤ 200 := ⟨fun h => by have := h.2; omega, fun h => ⟨hok, by omega⟩⟩
      simp [hE]
theorem w97 (k : Int) (l : List ValP) (hl : l.length ≤ 2^40) (hf : valsF l) : Contract Try.prog false 97 [.ro, .ro] [.i .i64 k, .sl false 4 (l.map vT)] [.b (decide (allOf k l))] [] := by
  refine mk_contract [] Try.func97 (c := Try.f97.body.get!) (by kernel_rfl) k97 r97 (of_decide_eq_true rfl) fun _ => ?_
  unfold c97; simp
  by_cases h200 : (200 : Int) < l.length
  · have : ¬ allOf k l := fun h => by have := h.2; omega
    simp [h200, this]
    intro h; omega
  simp [h200]
  intro _
  refine twp_for l.length (fun j s => s.t 0 = .i .i64 k ∧ s.t 1 = .sl false 4 (l.map vT) ∧ s.t 5 = .i .i64 j ∧ (∀ v ∈ l.take j, ofK k v) ∧ s.H = lk [(1, [])]) [] (by simp) ?_ ?_
  · simp
  · rintro j s hj ⟨q0, q1, q5, hok, qH⟩
    rw [nf_of qH]
    simp [q0, q1, q5]
    refine ⟨fun hlt => ?_, fun hge => ?_⟩
    · have hw : IntKind.i64.wrap (j + 1) = j + 1 := wrap_id (by omega) (by omega)
      obtain ⟨x, hx⟩ := get_some hlt
      have hxm := List.mem_of_getElem? hx
      simp [hx, hw, q0, q1, q5]
      by_cases h : ValOkP x
      · refine callW_ms [.ro] ?_
        simp [valV]
        refine callX_of ((w35 x (hf x hxm)).t h) (by simp) ?_
        simp [hw, q0, q1, q5, hx]
        refine ⟨fun h3 => ⟨hlt, fun a b c d hv => ?_⟩, fun h3 h4 => h3 (h4.1 x hxm).1⟩
        rw [take_snoc hx, List.mem_append, List.mem_singleton] at hv
        rcases hv with hv | rfl
        · exact hok _ hv
        · exact ⟨h3, h⟩
      · refine callW_ms [.ro] ?_
        simp [valV]
        refine callX_of ((w35 x (hf x hxm)).f h) (by simp) ?_
        simp [hw, q0, q1, q5, hx]
        intro h2; exact h (h2.1 x hxm).2
    · obtain rfl : j = l.length := by omega
      rw [List.take_of_length_le (Nat.le_refl _)] at hok
      exact ⟨hok, by omega⟩
theorem w64 (k : Int) (s : StrP) (hb : strB (2^40) s) : Contract Try.prog false 64 [.ro, .ro] [.i .i64 k, strR s] [.b (decide (StrOkP k s))] [] := by
  refine mk_contract [] Try.func64 (c := Try.f64.body.get!) (by kernel_rfl) k64 r64 (of_decide_eq_true rfl) fun _ => ?_
  unfold c64; unfold strR; simp
  by_cases h1 : 0 ≤ s.1 ∧ s.1 ≤ 1000000000000
  · refine callW_ms [.ro, .ro, .ro] ?_
    simp
    refine callX_of ((w87 _ _ _).t h1) (by simp) ?_
    simp
    by_cases h2 : allOf k s.2.1
    · refine callW_ms [.ro, .ro] ?_
      simp
      refine callX_of ((w99 s.2.1 k hb.1).t h2) (by simp) ?_
      simp
      refine callW_ms [.ro, .ro] ?_
      simp
      refine callX_of (w99 s.2.2 k hb.2) (by simp) ?_
      simp [StrOkP, h1, h2]
    · refine callW_ms [.ro, .ro] ?_
      simp
      refine callX_of ((w99 s.2.1 k hb.1).f h2) (by simp) ?_
      simp [StrOkP, h2]
  · refine callW_ms [.ro, .ro, .ro] ?_
    simp
    refine callX_of ((w87 _ _ _).f h1) (by simp) ?_
    simp [StrOkP, h1]
theorem w61 (k : Int) (s : StrP) (hb : strB (2^40) s) (hf : valsF s.2.1) (hf2 : valsF s.2.2) : Contract Try.prog false 61 [.ro, .ro] [.i .i64 k, strR s] [.b (decide (StrOkP k s))] [] := by
  refine mk_contract [] Try.func61 (c := Try.f61.body.get!) (by kernel_rfl) k61 r61 (of_decide_eq_true rfl) fun _ => ?_
  unfold c61; unfold strR; simp
  by_cases h1 : 0 ≤ s.1 ∧ s.1 ≤ 1000000000000
  · refine callW_ms [.ro, .ro, .ro] ?_
    simp
    refine callX_of ((w38 _ _ _).t h1) (by simp) ?_
    simp
    by_cases h2 : allOf k s.2.1
    · refine callW_ms [.ro, .ro] ?_
      simp
      refine callX_of ((w97 k s.2.1 hb.1 hf).t h2) (by simp) ?_
      simp
      refine callW_ms [.ro, .ro] ?_
      simp
      refine callX_of (w97 k s.2.2 hb.2 hf2) (by simp) ?_
      simp [StrOkP, h1, h2]
    · refine callW_ms [.ro, .ro] ?_
      simp
      refine callX_of ((w97 k s.2.1 hb.1 hf).f h2) (by simp) ?_
      simp [StrOkP, h2]
  · refine callW_ms [.ro, .ro, .ro] ?_
    simp
    refine callX_of ((w38 _ _ _).f h1) (by simp) ?_
    simp [StrOkP, h1]
def turnS (s : StrP) : StrP := (if 0 ≤ s.1 ∧ s.1 ≤ 1000000000000 - (s.2.1.length : Int) then s.1 + s.2.1.length else 0, s.2.2, [])
def sendS (k : Int) (s : StrP) (v : ValP) : StrP × Bool := if StrOkP k s ∧ ofK k v ∧ s.2.2.length < 200 then ((s.1, s.2.1, s.2.2 ++ [v]), true) else (s, false)
theorem sendS_len (k : Int) (s : StrP) (v : ValP) : (sendS k s v).1.2.1.length = s.2.1.length ∧ (sendS k s v).1.2.2.length ≤ s.2.2.length + 1 := by
  unfold sendS; split <;> simp
end Go.Proofs.YtehmdblkkpdmoaaT

/- Trees; TreeSame. -/
namespace Go.Proofs.YtehmdblkkpdmoaaT
set_option linter.unusedVariables false
set_option linter.unusedSimpArgs false
open Go

/- spec.l4Equal -/
def c37 : TCode := (.seq (.ops [⟨(some 4), 6, .mv (.c (.b false)), none, []⟩])
  (.seq (.seq (.ops [⟨(some 6), 8, .mv (.t 0), none, []⟩, ⟨(some 7), 9, .len false (.t 6), none, []⟩, ⟨(some 8), 10, .mv (.t 1), none, []⟩, ⟨(some 9), 11, .len false (.t 8), none, []⟩, ⟨(some 10), 12, .bin .neq (.t 7) (.t 9), none, []⟩])
  (.cond (.t 10)
  (.seq (.ops [⟨(some 4), 6, .mv (.c (.b false)), none, []⟩])
  .ret)
  .skip))
  (.seq (.seq (.ops [⟨(some 5), 7, .mv (.c (.i .i64 0)), none, []⟩])
  (.block 0 (.loop (.seq (.seq (.ops [⟨(some 11), 13, .mv (.t 5), none, []⟩, ⟨(some 12), 14, .mv (.t 0), none, []⟩, ⟨(some 13), 15, .len false (.t 12), none, []⟩, ⟨(some 14), 16, .bin .lss (.t 11) (.t 13), none, []⟩])
  (.cond (.t 14)
  .skip
  (.exit 0)))
  (.seq (.block 1 (.seq (.draw [⟨(some 17), 19, .mv (.t 0), none, []⟩, ⟨(some 18), 20, .mv (.t 5), none, []⟩, ⟨(some 19), 21, .iaddr 1 (.t 17) (.t 18), none, []⟩, ⟨(some 20), 22, .load false 1 (.t 19), none, []⟩, ⟨(some 21), 23, .mv (.t 1), none, []⟩, ⟨(some 22), 24, .mv (.t 5), none, []⟩, ⟨(some 23), 25, .iaddr 1 (.t 21) (.t 22), none, []⟩, ⟨(some 24), 26, .load false 1 (.t 23), none, []⟩, ⟨(some 25), 27, .bin .neq (.t 20) (.t 24), none, []⟩])
  (.cond (.t 25)
  (.seq (.ops [⟨(some 4), 6, .mv (.c (.b false)), none, []⟩])
  .ret)
  .skip)))
  (.ops [⟨(some 15), 17, .mv (.t 5), none, []⟩, ⟨(some 16), 18, .bin .add (.t 15) (.c (.i .i64 1)), none, []⟩, ⟨(some 5), 7, .mv (.t 16), none, []⟩]))))))
  (.seq (.ops [⟨(some 4), 6, .mv (.c (.b true)), none, []⟩])
  .ret))))
theorem k37 : compCode Try.prog Try.f37.ntmps Try.f37.body.get! = some c37 := by kernel_rfl
theorem r37 : resTmps Try.prog Try.f37.results.toList = some [.tmp 4] := by kernel_rfl
/- slices.Equal[[]int,int] -/
def c90 : TCode := (.seq (.ops [⟨(some 4), 6, .mv (.c (.b false)), none, []⟩])
  (.seq (.seq (.ops [⟨(some 6), 8, .mv (.t 0), none, []⟩, ⟨(some 7), 9, .len false (.t 6), none, []⟩, ⟨(some 8), 10, .mv (.t 1), none, []⟩, ⟨(some 9), 11, .len false (.t 8), none, []⟩, ⟨(some 10), 12, .bin .neq (.t 7) (.t 9), none, []⟩])
  (.cond (.t 10)
  (.seq (.ops [⟨(some 4), 6, .mv (.c (.b false)), none, []⟩])
  .ret)
  .skip))
  (.seq (.seq (.ops [⟨(some 11), 13, .mv (.t 0), none, []⟩, ⟨(some 12), 14, .len false (.t 11), none, []⟩, ⟨(some 13), 15, .mv (.c (.i .i64 0)), none, []⟩])
  (.block 0 (.loop (.seq (.ops [⟨(some 14), 16, .bin .lss (.t 13) (.t 12), none, []⟩])
  (.seq (.cond (.t 14)
  .skip
  (.exit 0))
  (.seq (.block 1 (.seq (.ops [⟨(some 15), 17, .mv (.t 13), none, []⟩, ⟨(some 5), 7, .mv (.t 15), none, []⟩])
  (.seq (.draw [⟨(some 16), 18, .mv (.t 0), none, []⟩, ⟨(some 17), 19, .mv (.t 5), none, []⟩, ⟨(some 18), 20, .iaddr 1 (.t 16) (.t 17), none, []⟩, ⟨(some 19), 21, .load false 1 (.t 18), none, []⟩, ⟨(some 20), 22, .mv (.t 1), none, []⟩, ⟨(some 21), 23, .mv (.t 5), none, []⟩, ⟨(some 22), 24, .iaddr 1 (.t 20) (.t 21), none, []⟩, ⟨(some 23), 25, .load false 1 (.t 22), none, []⟩, ⟨(some 24), 26, .bin .neq (.t 19) (.t 23), none, []⟩])
  (.cond (.t 24)
  (.seq (.ops [⟨(some 4), 6, .mv (.c (.b false)), none, []⟩])
  .ret)
  .skip))))
  (.ops [⟨(some 25), 27, .bin .add (.t 13) (.c (.i .i64 1)), none, []⟩, ⟨(some 13), 15, .mv (.t 25), none, []⟩])))))))
  (.seq (.ops [⟨(some 4), 6, .mv (.c (.b true)), none, []⟩])
  .ret))))
theorem k90 : compCode Try.prog Try.f90.ntmps Try.f90.body.get! = some c90 := by kernel_rfl
theorem r90 : resTmps Try.prog Try.f90.results.toList = some [.tmp 4] := by kernel_rfl

/-- Rows whose cells hold slices: one's own, and only read. -/
theorem fzLL_map2 {α : Type} {f g : α → List TV} (h : ∀ x, fzL (f x) = g x) (l : List α) : fzLL (l.map f) = l.map g := by
  induction l with
  | nil => rfl
  | cons a l ih => simp [fzLL, h, ih]

abbrev NodeP := Int × ByteArray × Int × List Int
@[simp] def nT (x : NodeP) : List TV := [.i .i64 x.1, .s x.2.1, .i .i64 x.2.2.1, .sl false 1 (x.2.2.2.map iT)]
@[simp] def nO (x : NodeP) : List TV := [.i .i64 x.1, .s x.2.1, .i .i64 x.2.2.1, .sl true 1 (x.2.2.2.map iT)]
@[simp] theorem fzL_nT (x : NodeP) : fzL (nT x) = nT x := by simp
@[simp] theorem fzL_nO (x : NodeP) : fzL (nO x) = nT x := by simp
@[simp] theorem fzLL_nT (l : List NodeP) : fzLL (l.map nT) = l.map nT := fzLL_map fzL_nT l
@[simp] theorem fzLL_nO (l : List NodeP) : fzLL (l.map nO) = l.map nT := fzLL_map2 fzL_nO l
@[simp] theorem noROLL_nO (l : List NodeP) : noROLL (l.map nO) = true := noROLL_map (fun _ => by simp [noROL, noRO]) l
@[simp] theorem noref_nT (l : List NodeP) : (l.map nT).all (·.all noref) = true := noref_map (fun _ => by simp) l
abbrev nodeR (x : NodeP) : TV := .ag (nT x)
abbrev nodeO (x : NodeP) : TV := .ag (nO x)

def szNodeF (x : NodeP) (n : Int) : Int := if szF n x.2.1.size < 0 then -1 else szF (szF n x.2.1.size) x.2.2.2.length
theorem szNode_le (x : NodeP) (n : Int) (h : 0 ≤ n) : szNodeF x n ≤ n := by unfold szNodeF szF; (repeat' split) <;> omega
theorem szNode_neg (x : NodeP) (n : Int) (h : szNodeF x n < 0) : szNodeF x n = -1 := by
  revert h; unfold szNodeF szF; (repeat' split) <;> omega
theorem szNode_pos {x : NodeP} {n : Int} (h : 0 ≤ szNodeF x n) : (x.2.2.2.length : Int) ≤ n := by
  revert h; unfold szNodeF szF; (repeat' split) <;> omega
abbrev treeR (l : List NodeP) (t : List Int) : TV := .ag [.sl false 4 (l.map nT), .sl false 1 (t.map iT)]
abbrev treeO (l : List NodeP) (t : List Int) : TV := .ag [.sl true 4 (l.map nO), .sl true 1 (t.map iT)]
def szTreeF (l : List NodeP) (t : List Int) (n : Int) : Int := if szS szNodeF l n < 0 then -1 else szF (szS szNodeF l n) t.length
theorem szTree_ok {l : List NodeP} {t : List Int} {n : Int} (h0 : 0 ≤ n) (h : ¬ szTreeF l t n < 0) : 0 ≤ szTreeF l t n ∧ szTreeF l t n ≤ n ∧ (l.length : Int) ≤ n ∧ (t.length : Int) ≤ n ∧ ∀ x ∈ l, (x.2.2.2.length : Int) ≤ n := by
  have e1 : ¬ szS szNodeF l n < 0 := fun h1 => h (by unfold szTreeF; rw [if_pos h1]; decide)
  obtain ⟨h1, h2, h3, h4⟩ := szS_lo szNode_le h0 e1
  have e : szTreeF l t n = szF (szS szNodeF l n) t.length := by unfold szTreeF; rw [if_neg e1]
  rw [e] at h ⊢
  have h5 : szF (szS szNodeF l n) t.length = szS szNodeF l n - t.length := by
    unfold szF at h ⊢; split at h <;> rename_i h6
    · exact absurd (by decide) h
    · rw [if_neg h6]
  rw [h5] at h ⊢
  refine ⟨by omega, by omega, h3, by omega, fun x hx => ?_⟩
  obtain ⟨m, m1, m2, m3⟩ := h4 x hx
  have := szNode_pos m3
  omega
theorem w37 (a b : List Int) (ha : a.length ≤ 2^40) (hb : b.length ≤ 2^40) : Contract Try.prog false 37 [.ro, .ro] [.sl false 1 (a.map iT), .sl false 1 (b.map iT)] [.b (decide (a = b))] [] := by
  refine mk_contract [] Try.func37 (c := Try.f37.body.get!) (by kernel_rfl) k37 r37 (of_decide_eq_true rfl) fun _ => ?_
  unfold c37; simp
  refine ⟨fun h => ?_, fun h => ?_⟩
  · refine twp_for a.length (fun j s => s.t 0 = .sl false 1 (a.map iT) ∧ s.t 1 = .sl false 1 (b.map iT) ∧ s.t 5 = .i .i64 j ∧ a.take j = b.take j ∧ s.H = lk [(1, [])]) [] (by simp) ?_ ?_
    · simp
    · rintro j s hj ⟨q0, q1, q5, hab, qH⟩
      rw [nf_of qH]
      simp [q0, q1, q5]
      refine ⟨fun hlt => ?_, fun hge => ?_⟩
      · have hw : IntKind.i64.wrap (j + 1) = j + 1 := wrap_id (by omega) (by omega)
        obtain ⟨x, hx⟩ := get_some hlt
        obtain ⟨y, hy⟩ := get_some (l := b) (j := j) (by omega)
        simp [hx, hy, hw, q0, q1, q5]
        refine ⟨fun hxy => ⟨hlt, by rw [take_snoc hx, take_snoc hy, hab, hxy]⟩, fun hxy hab => hxy (by subst hab; simpa [hx] using hy)⟩
      · obtain rfl : j = a.length := by omega
        rw [List.take_of_length_le (Nat.le_refl _), List.take_of_length_le (by omega)] at hab
        exact hab
  · rintro rfl; exact h rfl
theorem w90 (a b : List Int) (ha : a.length ≤ 2^40) (hb : b.length ≤ 2^40) : Contract Try.prog false 90 [.ro, .ro] [.sl false 1 (a.map iT), .sl false 1 (b.map iT)] [.b (decide (a = b))] [] := by
  refine mk_contract [] Try.func90 (c := Try.f90.body.get!) (by kernel_rfl) k90 r90 (of_decide_eq_true rfl) fun _ => ?_
  unfold c90; simp
  refine ⟨fun h => ?_, fun h => ?_⟩
  · refine twp_for a.length (fun j s => s.t 0 = .sl false 1 (a.map iT) ∧ s.t 1 = .sl false 1 (b.map iT) ∧ s.t 12 = .i .i64 a.length ∧ s.t 13 = .i .i64 j ∧ a.take j = b.take j ∧ s.H = lk [(1, [])]) [] (by simp) ?_ ?_
    · simp
    · rintro j s hj ⟨q0, q1, q12, q13, hab, qH⟩
      rw [nf_of qH]
      simp [q0, q1, q12, q13]
      refine ⟨fun hlt => ?_, fun hge => ?_⟩
      · have hw : IntKind.i64.wrap (j + 1) = j + 1 := wrap_id (by omega) (by omega)
        obtain ⟨x, hx⟩ := get_some hlt
        obtain ⟨y, hy⟩ := get_some (l := b) (j := j) (by omega)
        simp [hx, hy, hw, q0, q1, q12, q13]
        refine ⟨fun hxy => ⟨hlt, by rw [take_snoc hx, take_snoc hy, hab, hxy]⟩, fun hxy hab => hxy (by subst hab; simpa [hx] using hy)⟩
      · obtain rfl : j = a.length := by omega
        rw [List.take_of_length_le (Nat.le_refl _), List.take_of_length_le (by omega)] at hab
        exact hab
  · rintro rfl; exact h rfl
theorem node_ext {x y : NodeP} : x = y ↔ x.1 = y.1 ∧ x.2.1 = y.2.1 ∧ x.2.2.1 = y.2.2.1 ∧ x.2.2.2 = y.2.2.2 := by
  obtain ⟨a, b, c, d⟩ := x; obtain ⟨a', b', c', d'⟩ := y; simp
end Go.Proofs.YtehmdblkkpdmoaaT

/- Worlds: right tables, right rows. -/
namespace Go.Proofs.YtehmdblkkpdmoaaT
set_option linter.unusedVariables false
set_option linter.unusedSimpArgs false
open Go

/- (*impl.World).table -/
def c46 : TCode := (.seq (.ops [⟨(some 4), 6, .mv (.c (.i .i64 0)), none, []⟩])
  (.seq (.seq (.ops [⟨(some 6), 8, .mv (.t 0), none, []⟩, ⟨(some 7), 9, .nilck (.t 6), none, []⟩, ⟨(some 8), 10, .faddr 2 1 (.t 7), none, []⟩, ⟨(some 9), 11, .load false 1 (.t 8), none, []⟩, ⟨(some 10), 12, .len false (.t 9), none, []⟩, ⟨(some 11), 13, .mv (.c (.i .i64 0)), none, []⟩])
  (.block 0 (.loop (.seq (.ops [⟨(some 12), 14, .bin .lss (.t 11) (.t 10), none, []⟩])
  (.seq (.cond (.t 12)
  .skip
  (.exit 0))
  (.seq (.block 1 (.seq (.ops [⟨(some 13), 15, .mv (.t 11), none, []⟩, ⟨(some 5), 7, .mv (.t 13), none, []⟩])
  (.seq (.ops [⟨(some 14), 16, .mv (.t 0), none, []⟩, ⟨(some 15), 17, .nilck (.t 14), none, []⟩, ⟨(some 16), 18, .faddr 2 1 (.t 15), none, []⟩, ⟨(some 17), 19, .load false 1 (.t 16), none, []⟩, ⟨(some 18), 20, .mv (.t 5), none, []⟩, ⟨(some 19), 21, .iaddr 3 (.t 17) (.t 18), none, []⟩, ⟨(some 20), 22, .faddr 0 1 (.t 19), none, []⟩, ⟨(some 21), 23, .load false 1 (.t 20), none, []⟩, ⟨(some 22), 24, .mv (.t 1), none, []⟩, ⟨(some 23), 25, .call 90 [((.t 21), 0), ((.t 22), 0)], none, []⟩])
  (.cond (.t 23)
  (.seq (.ops [⟨(some 24), 26, .mv (.t 5), none, []⟩, ⟨(some 4), 6, .mv (.t 24), none, []⟩])
  .ret)
  .skip))))
  (.ops [⟨(some 25), 27, .bin .add (.t 11) (.c (.i .i64 1)), none, []⟩, ⟨(some 11), 13, .mv (.t 25), none, []⟩])))))))
  (.seq (.ops [⟨(some 4), 6, .mv (.c (.i .i64 (-1))), none, []⟩])
  .ret)))
theorem k46 : compCode Try.prog Try.f46.ntmps Try.f46.body.get! = some c46 := by kernel_rfl
theorem r46 : resTmps Try.prog Try.f46.results.toList = some [.tmp 4] := by kernel_rfl
/- impl.tableOk -/
def c45 : TCode := (.seq (.ops [⟨(some 3), 5, .box 3 (.t 1), none, []⟩, ⟨(some 4), 6, .mv (.c (.b false)), none, []⟩])
  (.seq (.seq (.draw [⟨(some 9), 11, .faddr 0 1 (.t 3), none, []⟩, ⟨(some 10), 12, .load false 1 (.t 9), none, []⟩, ⟨(some 11), 13, .mv (.t 0), none, []⟩, ⟨(some 12), 14, .nilck (.t 11), none, []⟩, ⟨(some 13), 15, .faddr 0 1 (.t 12), none, []⟩, ⟨(some 14), 16, .load false 1 (.t 13), none, []⟩, ⟨(some 15), 17, .len false (.t 14), none, []⟩, ⟨(some 16), 18, .call 89 [((.t 10), 0), ((.t 15), 0)], none, []⟩, ⟨(some 17), 19, .un .not (.t 16), none, []⟩, ⟨(some 18), 20, .mv (.t 17), none, []⟩, ⟨(some 19), 21, .faddr 2 1 (.t 3), (some (18, false)), []⟩, ⟨(some 20), 22, .load false 1 (.t 19), (some (18, false)), []⟩, ⟨(some 21), 23, .len false (.t 20), (some (18, false)), []⟩, ⟨(some 22), 24, .faddr 0 1 (.t 3), (some (18, false)), []⟩, ⟨(some 23), 25, .load false 1 (.t 22), (some (18, false)), []⟩, ⟨(some 24), 26, .len false (.t 23), (some (18, false)), []⟩, ⟨(some 25), 27, .bin .neq (.t 21) (.t 24), (some (18, false)), []⟩, ⟨(some 26), 28, .pick (.t 18) (.c (.b true)) (.t 25), none, []⟩])
  (.cond (.t 26)
  (.seq (.ops [⟨(some 4), 6, .mv (.c (.b false)), none, []⟩])
  .ret)
  .skip))
  (.seq (.seq (.ops [⟨(some 27), 29, .faddr 0 1 (.t 3), none, []⟩, ⟨(some 28), 30, .load false 1 (.t 27), none, []⟩, ⟨(some 29), 31, .len false (.t 28), none, []⟩, ⟨(some 30), 32, .mv (.c (.i .i64 0)), none, []⟩])
  (.block 0 (.loop (.seq (.ops [⟨(some 31), 33, .bin .lss (.t 30) (.t 29), none, []⟩])
  (.seq (.cond (.t 31)
  .skip
  (.exit 0))
  (.seq (.block 1 (.seq (.ops [⟨(some 32), 34, .mv (.t 30), none, []⟩, ⟨(some 33), 35, .iaddr 1 (.t 28) (.t 30), none, []⟩, ⟨(some 34), 36, .load false 1 (.t 33), none, []⟩, ⟨(some 5), 7, .mv (.t 32), none, []⟩, ⟨(some 6), 8, .mv (.t 34), none, []⟩])
  (.seq (.seq (.draw [⟨(some 35), 37, .faddr 2 1 (.t 3), none, []⟩, ⟨(some 36), 38, .load false 1 (.t 35), none, []⟩, ⟨(some 37), 39, .mv (.t 5), none, []⟩, ⟨(some 38), 40, .iaddr 1 (.t 36) (.t 37), none, []⟩, ⟨(some 39), 41, .load false 1 (.t 38), none, []⟩, ⟨(some 40), 42, .len false (.t 39), none, []⟩, ⟨(some 41), 43, .faddr 1 1 (.t 3), none, []⟩, ⟨(some 42), 44, .load false 1 (.t 41), none, []⟩, ⟨(some 43), 45, .len false (.t 42), none, []⟩, ⟨(some 44), 46, .bin .neq (.t 40) (.t 43), none, []⟩])
  (.cond (.t 44)
  (.seq (.ops [⟨(some 4), 6, .mv (.c (.b false)), none, []⟩])
  .ret)
  .skip))
  (.seq (.ops [⟨(some 45), 47, .faddr 2 1 (.t 3), none, []⟩, ⟨(some 46), 48, .load false 1 (.t 45), none, []⟩, ⟨(some 47), 49, .mv (.t 5), none, []⟩, ⟨(some 48), 50, .iaddr 1 (.t 46) (.t 47), none, []⟩, ⟨(some 49), 51, .load false 1 (.t 48), none, []⟩, ⟨(some 50), 52, .len false (.t 49), none, []⟩, ⟨(some 51), 53, .mv (.c (.i .i64 0)), none, []⟩])
  (.block 2 (.loop (.seq (.ops [⟨(some 52), 54, .bin .lss (.t 51) (.t 50), none, []⟩])
  (.seq (.cond (.t 52)
  .skip
  (.exit 2))
  (.seq (.block 3 (.seq (.ops [⟨(some 53), 55, .iaddr 4 (.t 49) (.t 51), none, []⟩, ⟨(some 54), 56, .load true 4 (.t 53), none, []⟩, ⟨(some 8), 10, .box 4 (.c (.ag [(.i .i64 0), (.i .i64 0), (.f 0), (.f 0)])), none, []⟩, ⟨none, 1010003, .store 4 (.t 8) (.t 54), none, []⟩])
  (.seq (.draw [⟨(some 55), 57, .load true 4 (.t 8), none, []⟩, ⟨(some 56), 58, .mv (.t 0), none, []⟩, ⟨(some 57), 59, .nilck (.t 56), none, []⟩, ⟨(some 58), 60, .faddr 0 1 (.t 57), none, []⟩, ⟨(some 59), 61, .load false 1 (.t 58), none, []⟩, ⟨(some 60), 62, .mv (.t 6), none, []⟩, ⟨(some 61), 63, .iaddr 2 (.t 59) (.t 60), none, []⟩, ⟨(some 62), 64, .faddr 1 1 (.t 61), none, []⟩, ⟨(some 63), 65, .load false 1 (.t 62), none, []⟩, ⟨(some 64), 66, .call 47 [((.t 55), 0), ((.t 63), 0)], none, []⟩, ⟨(some 65), 67, .un .not (.t 64), none, []⟩])
  (.cond (.t 65)
  (.seq (.ops [⟨(some 4), 6, .mv (.c (.b false)), none, []⟩])
  .ret)
  .skip))))
  (.ops [⟨(some 66), 68, .bin .add (.t 51) (.c (.i .i64 1)), none, []⟩, ⟨(some 51), 53, .mv (.t 66), none, []⟩]))))))))))
  (.ops [⟨(some 67), 69, .bin .add (.t 30) (.c (.i .i64 1)), none, []⟩, ⟨(some 30), 32, .mv (.t 67), none, []⟩])))))))
  (.seq (.ops [⟨(some 4), 6, .mv (.c (.b true)), none, []⟩])
  .ret))))
theorem k45 : compCode Try.prog Try.f45.ntmps Try.f45.body.get! = some c45 := by kernel_rfl
theorem r45 : resTmps Try.prog Try.f45.results.toList = some [.tmp 4] := by kernel_rfl
/- impl.rowsOk -/
def c48 : TCode := (.seq (.ops [⟨(some 1), 3, .box 4 (.t 0), none, []⟩, ⟨(some 2), 4, .mv (.c (.b false)), none, []⟩])
  (.seq (.ops [⟨(some 12), 14, .faddr 0 2 (.t 1), none, []⟩, ⟨(some 13), 15, .load true 2 (.t 12), none, []⟩, ⟨(some 14), 16, .call 88 [((.t 13), 0)], none, []⟩, ⟨(some 11), 13, .mv (.t 14), none, []⟩, ⟨(some 15), 17, .ext 0 (.t 11), none, []⟩, ⟨(some 16), 18, .ext 1 (.t 11), none, []⟩, ⟨(some 3), 5, .mv (.t 15), none, []⟩, ⟨(some 4), 6, .mv (.t 16), none, []⟩])
  (.seq (.ops [⟨(some 17), 19, .faddr 0 2 (.t 1), none, []⟩, ⟨(some 18), 20, .faddr 0 1 (.t 17), none, []⟩, ⟨(some 19), 21, .load false 1 (.t 18), none, []⟩, ⟨(some 20), 22, .len false (.t 19), none, []⟩, ⟨(some 21), 23, .mkslice 1 1 [(.b false)] (.t 20) (.t 20), none, []⟩, ⟨(some 5), 7, .mv (.t 21), none, []⟩])
  (.seq (.ops [⟨(some 6), 8, .mv (.c (.i .i64 0)), none, []⟩])
  (.seq (.seq (.ops [⟨(some 22), 24, .faddr 2 1 (.t 1), none, []⟩, ⟨(some 23), 25, .load false 1 (.t 22), none, []⟩, ⟨(some 24), 26, .len false (.t 23), none, []⟩, ⟨(some 25), 27, .mv (.c (.i .i64 0)), none, []⟩])
  (.block 0 (.loop (.seq (.ops [⟨(some 26), 28, .bin .lss (.t 25) (.t 24), none, []⟩])
  (.seq (.cond (.t 26)
  .skip
  (.exit 0))
  (.seq (.block 1 (.seq (.ops [⟨(some 27), 29, .iaddr 3 (.t 23) (.t 25), none, []⟩, ⟨(some 28), 30, .load true 3 (.t 27), none, []⟩, ⟨(some 8), 10, .box 3 (.c (.ag [(.sl true 1 []), (.sl true 2 []), (.sl true 1 [])])), none, []⟩, ⟨none, 1006003, .store 3 (.t 8) (.t 28), none, []⟩])
  (.seq (.ops [⟨(some 29), 31, .faddr 1 1 (.t 8), none, []⟩, ⟨(some 30), 32, .load false 1 (.t 29), none, []⟩, ⟨(some 31), 33, .len false (.t 30), none, []⟩, ⟨(some 32), 34, .mv (.c (.i .i64 0)), none, []⟩])
  (.block 2 (.loop (.seq (.ops [⟨(some 33), 35, .bin .lss (.t 32) (.t 31), none, []⟩])
  (.seq (.cond (.t 33)
  .skip
  (.exit 2))
  (.seq (.block 3 (.seq (.ops [⟨(some 34), 36, .iaddr 2 (.t 30) (.t 32), none, []⟩, ⟨(some 35), 37, .load true 2 (.t 34), none, []⟩, ⟨(some 10), 12, .box 2 (.c (.ag [(.i .i64 0), (.i .i64 0)])), none, []⟩, ⟨none, 1009003, .store 2 (.t 10) (.t 35), none, []⟩])
  (.seq (.seq (.draw [⟨(some 36), 38, .faddr 0 1 (.t 10), none, []⟩, ⟨(some 37), 39, .load false 1 (.t 36), none, []⟩, ⟨(some 38), 40, .mv (.t 5), none, []⟩, ⟨(some 39), 41, .len false (.t 38), none, []⟩, ⟨(some 40), 42, .bin .sub (.t 39) (.c (.i .i64 1)), none, []⟩, ⟨(some 41), 43, .call 87 [((.t 37), 0), ((.c (.i .i64 0)), 0), ((.t 40), 0)], none, []⟩, ⟨(some 42), 44, .un .not (.t 41), none, []⟩, ⟨(some 43), 45, .mv (.t 42), none, []⟩, ⟨(some 44), 46, .mv (.t 3), (some (43, false)), []⟩, ⟨(some 45), 47, .faddr 0 1 (.t 10), (some (43, false)), []⟩, ⟨(some 46), 48, .load false 1 (.t 45), (some (43, false)), []⟩, ⟨(some 47), 49, .iaddr 1 (.t 44) (.t 46), (some (43, false)), []⟩, ⟨(some 48), 50, .load false 1 (.t 47), (some (43, false)), []⟩, ⟨(some 49), 51, .pick (.t 43) (.c (.b true)) (.t 48), none, []⟩, ⟨(some 50), 52, .mv (.t 49), none, []⟩, ⟨(some 51), 53, .mv (.t 5), (some (50, false)), []⟩, ⟨(some 52), 54, .faddr 0 1 (.t 10), (some (50, false)), []⟩, ⟨(some 53), 55, .load false 1 (.t 52), (some (50, false)), []⟩, ⟨(some 54), 56, .iaddr 1 (.t 51) (.t 53), (some (50, false)), []⟩, ⟨(some 55), 57, .load false 1 (.t 54), (some (50, false)), []⟩, ⟨(some 56), 58, .pick (.t 50) (.c (.b true)) (.t 55), none, []⟩, ⟨(some 57), 59, .mv (.t 56), none, []⟩, ⟨(some 58), 60, .faddr 0 2 (.t 1), (some (57, false)), []⟩, ⟨(some 59), 61, .faddr 0 1 (.t 58), (some (57, false)), []⟩, ⟨(some 60), 62, .load false 1 (.t 59), (some (57, false)), []⟩, ⟨(some 61), 63, .faddr 0 1 (.t 10), (some (57, false)), []⟩, ⟨(some 62), 64, .load false 1 (.t 61), (some (57, false)), []⟩, ⟨(some 63), 65, .iaddr 1 (.t 60) (.t 62), (some (57, false)), []⟩, ⟨(some 64), 66, .load false 1 (.t 63), (some (57, false)), []⟩, ⟨(some 65), 67, .faddr 1 1 (.t 10), (some (57, false)), []⟩, ⟨(some 66), 68, .load false 1 (.t 65), (some (57, false)), []⟩, ⟨(some 67), 69, .bin .neq (.t 64) (.t 66), (some (57, false)), []⟩, ⟨(some 68), 70, .pick (.t 57) (.c (.b true)) (.t 67), none, []⟩])
  (.cond (.t 68)
  (.seq (.ops [⟨(some 2), 4, .mv (.c (.b false)), none, []⟩])
  .ret)
  .skip))
  (.seq (.ops [⟨(some 69), 71, .mv (.t 5), none, []⟩, ⟨(some 70), 72, .faddr 0 1 (.t 10), none, []⟩, ⟨(some 71), 73, .load false 1 (.t 70), none, []⟩, ⟨(some 72), 74, .iaddr 1 (.t 69) (.t 71), none, []⟩, ⟨none, 1012004, .store 1 (.t 72) (.c (.b true)), none, []⟩])
  (.ops [⟨(some 73), 75, .mv (.t 6), none, []⟩, ⟨(some 74), 76, .bin .add (.t 73) (.c (.i .i64 1)), none, []⟩, ⟨(some 6), 8, .mv (.t 74), none, []⟩])))))
  (.ops [⟨(some 75), 77, .bin .add (.t 32) (.c (.i .i64 1)), none, []⟩, ⟨(some 32), 34, .mv (.t 75), none, []⟩])))))))))
  (.ops [⟨(some 76), 78, .bin .add (.t 25) (.c (.i .i64 1)), none, []⟩, ⟨(some 25), 27, .mv (.t 76), none, []⟩])))))))
  (.seq (.ops [⟨(some 77), 79, .mv (.t 6), none, []⟩, ⟨(some 78), 80, .mv (.t 5), none, []⟩, ⟨(some 79), 81, .len false (.t 78), none, []⟩, ⟨(some 80), 82, .faddr 0 2 (.t 1), none, []⟩, ⟨(some 81), 83, .faddr 1 1 (.t 80), none, []⟩, ⟨(some 82), 84, .load false 1 (.t 81), none, []⟩, ⟨(some 83), 85, .len false (.t 82), none, []⟩, ⟨(some 84), 86, .bin .sub (.t 79) (.t 83), none, []⟩, ⟨(some 85), 87, .bin .eql (.t 77) (.t 84), none, []⟩, ⟨(some 2), 4, .mv (.t 85), none, []⟩])
  .ret))))))
theorem k48 : compCode Try.prog Try.f48.ntmps Try.f48.body.get! = some c48 := by kernel_rfl
theorem r48 : resTmps Try.prog Try.f48.results.toList = some [.tmp 2] := by kernel_rfl
/- spec.l4Fits -/
def c80 : TCode := (.seq (.ops [⟨(some 3), 5, .box 3 (.t 0), none, []⟩, ⟨(some 5), 7, .box 4 (.t 2), none, []⟩, ⟨(some 6), 8, .mv (.c (.b false)), none, []⟩])
  (.seq (.draw [⟨(some 7), 9, .mv (.t 1), none, []⟩, ⟨(some 8), 10, .faddr 0 1 (.t 3), none, []⟩, ⟨(some 9), 11, .load false 1 (.t 8), none, []⟩, ⟨(some 10), 12, .len false (.t 9), none, []⟩, ⟨(some 11), 13, .bin .sub (.t 10) (.c (.i .i64 1)), none, []⟩, ⟨(some 12), 14, .call 38 [((.t 7), 0), ((.c (.i .i64 0)), 0), ((.t 11), 0)], none, []⟩, ⟨(some 13), 15, .mv (.t 12), none, []⟩, ⟨(some 14), 16, .load true 4 (.t 5), (some (13, true)), []⟩, ⟨(some 15), 17, .call 35 [((.t 14), 0)], (some (13, true)), []⟩, ⟨(some 16), 18, .pick (.t 13) (.t 15) (.c (.b false)), none, []⟩, ⟨(some 17), 19, .mv (.t 16), none, []⟩, ⟨(some 18), 20, .faddr 0 1 (.t 5), (some (17, true)), []⟩, ⟨(some 19), 21, .load false 1 (.t 18), (some (17, true)), []⟩, ⟨(some 20), 22, .faddr 0 1 (.t 3), (some (17, true)), []⟩, ⟨(some 21), 23, .load false 1 (.t 20), (some (17, true)), []⟩, ⟨(some 22), 24, .mv (.t 1), (some (17, true)), []⟩, ⟨(some 23), 25, .iaddr 2 (.t 21) (.t 22), (some (17, true)), []⟩, ⟨(some 24), 26, .faddr 1 1 (.t 23), (some (17, true)), []⟩, ⟨(some 25), 27, .load false 1 (.t 24), (some (17, true)), []⟩, ⟨(some 26), 28, .bin .eql (.t 19) (.t 25), (some (17, true)), []⟩, ⟨(some 27), 29, .pick (.t 17) (.t 26) (.c (.b false)), none, []⟩, ⟨(some 6), 8, .mv (.t 27), none, []⟩])
  .ret))
theorem k80 : compCode Try.prog Try.f80.ntmps Try.f80.body.get! = some c80 := by kernel_rfl
theorem r80 : resTmps Try.prog Try.f80.results.toList = some [.tmp 6] := by kernel_rfl
/- spec.l4TableOk -/
def c36 : TCode := (.seq (.ops [⟨(some 2), 4, .box 3 (.t 0), none, []⟩, ⟨(some 3), 5, .box 3 (.t 1), none, []⟩, ⟨(some 4), 6, .mv (.c (.b false)), none, []⟩])
  (.seq (.seq (.ops [⟨(some 7), 9, .faddr 0 1 (.t 3), none, []⟩, ⟨(some 8), 10, .load false 1 (.t 7), none, []⟩, ⟨(some 9), 11, .len false (.t 8), none, []⟩, ⟨(some 10), 12, .bin .gtr (.t 9) (.c (.i .i64 12)), none, []⟩, ⟨(some 11), 13, .mv (.t 10), none, []⟩, ⟨(some 12), 14, .faddr 0 1 (.t 3), (some (11, false)), []⟩, ⟨(some 13), 15, .load false 1 (.t 12), (some (11, false)), []⟩, ⟨(some 14), 16, .faddr 0 1 (.t 2), (some (11, false)), []⟩, ⟨(some 15), 17, .load false 1 (.t 14), (some (11, false)), []⟩, ⟨(some 16), 18, .len false (.t 15), (some (11, false)), []⟩, ⟨(some 17), 19, .call 79 [((.t 13), 0), ((.t 16), 0)], (some (11, false)), []⟩, ⟨(some 18), 20, .un .not (.t 17), (some (11, false)), []⟩, ⟨(some 19), 21, .pick (.t 11) (.c (.b true)) (.t 18), none, []⟩, ⟨(some 20), 22, .mv (.t 19), none, []⟩, ⟨(some 21), 23, .faddr 2 1 (.t 3), (some (20, false)), []⟩, ⟨(some 22), 24, .load false 1 (.t 21), (some (20, false)), []⟩, ⟨(some 23), 25, .len false (.t 22), (some (20, false)), []⟩, ⟨(some 24), 26, .faddr 0 1 (.t 3), (some (20, false)), []⟩, ⟨(some 25), 27, .load false 1 (.t 24), (some (20, false)), []⟩, ⟨(some 26), 28, .len false (.t 25), (some (20, false)), []⟩, ⟨(some 27), 29, .bin .neq (.t 23) (.t 26), (some (20, false)), []⟩, ⟨(some 28), 30, .pick (.t 20) (.c (.b true)) (.t 27), none, []⟩, ⟨(some 29), 31, .mv (.t 28), none, []⟩, ⟨(some 30), 32, .faddr 1 1 (.t 3), (some (29, false)), []⟩, ⟨(some 31), 33, .load false 1 (.t 30), (some (29, false)), []⟩, ⟨(some 32), 34, .len false (.t 31), (some (29, false)), []⟩, ⟨(some 33), 35, .bin .gtr (.t 32) (.c (.i .i64 2000)), (some (29, false)), []⟩, ⟨(some 34), 36, .pick (.t 29) (.c (.b true)) (.t 33), none, []⟩])
  (.cond (.t 34)
  (.seq (.ops [⟨(some 4), 6, .mv (.c (.b false)), none, []⟩])
  .ret)
  .skip))
  (.seq (.seq (.ops [⟨(some 5), 7, .mv (.c (.i .i64 0)), none, []⟩])
  (.block 0 (.loop (.seq (.seq (.ops [⟨(some 35), 37, .mv (.t 5), none, []⟩, ⟨(some 36), 38, .faddr 2 1 (.t 3), none, []⟩, ⟨(some 37), 39, .load false 1 (.t 36), none, []⟩, ⟨(some 38), 40, .len false (.t 37), none, []⟩, ⟨(some 39), 41, .bin .lss (.t 35) (.t 38), none, []⟩])
  (.cond (.t 39)
  .skip
  (.exit 0)))
  (.seq (.block 1 (.seq (.seq (.draw [⟨(some 42), 44, .faddr 2 1 (.t 3), none, []⟩, ⟨(some 43), 45, .load false 1 (.t 42), none, []⟩, ⟨(some 44), 46, .mv (.t 5), none, []⟩, ⟨(some 45), 47, .iaddr 1 (.t 43) (.t 44), none, []⟩, ⟨(some 46), 48, .load false 1 (.t 45), none, []⟩, ⟨(some 47), 49, .len false (.t 46), none, []⟩, ⟨(some 48), 50, .faddr 1 1 (.t 3), none, []⟩, ⟨(some 49), 51, .load false 1 (.t 48), none, []⟩, ⟨(some 50), 52, .len false (.t 49), none, []⟩, ⟨(some 51), 53, .bin .neq (.t 47) (.t 50), none, []⟩])
  (.cond (.t 51)
  (.seq (.ops [⟨(some 4), 6, .mv (.c (.b false)), none, []⟩])
  .ret)
  .skip))
  (.seq (.ops [⟨(some 6), 8, .mv (.c (.i .i64 0)), none, []⟩])
  (.block 2 (.loop (.seq (.seq (.ops [⟨(some 52), 54, .mv (.t 6), none, []⟩, ⟨(some 53), 55, .faddr 1 1 (.t 3), none, []⟩, ⟨(some 54), 56, .load false 1 (.t 53), none, []⟩, ⟨(some 55), 57, .len false (.t 54), none, []⟩, ⟨(some 56), 58, .bin .lss (.t 52) (.t 55), none, []⟩])
  (.cond (.t 56)
  .skip
  (.exit 2)))
  (.seq (.block 3 (.seq (.draw [⟨(some 59), 61, .load true 3 (.t 2), none, []⟩, ⟨(some 60), 62, .faddr 0 1 (.t 3), none, []⟩, ⟨(some 61), 63, .load false 1 (.t 60), none, []⟩, ⟨(some 62), 64, .mv (.t 5), none, []⟩, ⟨(some 63), 65, .iaddr 1 (.t 61) (.t 62), none, []⟩, ⟨(some 64), 66, .load false 1 (.t 63), none, []⟩, ⟨(some 65), 67, .faddr 2 1 (.t 3), none, []⟩, ⟨(some 66), 68, .load false 1 (.t 65), none, []⟩, ⟨(some 67), 69, .mv (.t 5), none, []⟩, ⟨(some 68), 70, .iaddr 1 (.t 66) (.t 67), none, []⟩, ⟨(some 69), 71, .load false 1 (.t 68), none, []⟩, ⟨(some 70), 72, .mv (.t 6), none, []⟩, ⟨(some 71), 73, .iaddr 4 (.t 69) (.t 70), none, []⟩, ⟨(some 72), 74, .load true 4 (.t 71), none, []⟩, ⟨(some 73), 75, .call 80 [((.t 59), 0), ((.t 64), 0), ((.t 72), 0)], none, []⟩, ⟨(some 74), 76, .un .not (.t 73), none, []⟩])
  (.cond (.t 74)
  (.seq (.ops [⟨(some 4), 6, .mv (.c (.b false)), none, []⟩])
  .ret)
  .skip)))
  (.ops [⟨(some 57), 59, .mv (.t 6), none, []⟩, ⟨(some 58), 60, .bin .add (.t 57) (.c (.i .i64 1)), none, []⟩, ⟨(some 6), 8, .mv (.t 58), none, []⟩]))))))))
  (.ops [⟨(some 40), 42, .mv (.t 5), none, []⟩, ⟨(some 41), 43, .bin .add (.t 40) (.c (.i .i64 1)), none, []⟩, ⟨(some 5), 7, .mv (.t 41), none, []⟩]))))))
  (.seq (.ops [⟨(some 4), 6, .mv (.c (.b true)), none, []⟩])
  .ret))))
theorem k36 : compCode Try.prog Try.f36.ntmps Try.f36.body.get! = some c36 := by kernel_rfl
theorem r36 : resTmps Try.prog Try.f36.results.toList = some [.tmp 4] := by kernel_rfl

abbrev DeclsP := List (ByteArray × Int)
def flatR (ts : List TableP) : List (Int × Int) := ts.flatMap (·.2.1)
theorem flatR_snoc {ts : List TableP} {j : Nat} {t : TableP} (ht : ts[j]? = some t) : flatR (ts.take (j + 1)) = flatR (ts.take j) ++ t.2.1 := by
  unfold flatR; rw [take_snoc ht]; simp
theorem flatR_nil : flatR [] = [] := rfl
theorem flatR_pre {ts : List TableP} {j : Nat} {t : TableP} (ht : ts[j]? = some t) (k : Nat) : ∃ rest, flatR ts = (flatR (ts.take j) ++ t.2.1.take k) ++ rest := by
  refine ⟨t.2.1.drop k ++ flatR (ts.drop (j + 1)), ?_⟩
  have h1 : flatR ts = flatR (ts.take (j + 1)) ++ flatR (ts.drop (j + 1)) := by
    unfold flatR; rw [← List.flatMap_append, List.take_append_drop]
  rw [h1, flatR_snoc ht]
  conv => lhs; rw [← List.take_append_drop k t.2.1]
  simp only [List.append_assoc]
def atsR (a : List (Int × Int)) : List Int := a.map (·.1)
theorem atsR_nil : atsR [] = [] := rfl
theorem atsR_snoc (a : List (Int × Int)) (e : Int × Int) : atsR (a ++ [e]) = atsR a ++ [e.1] := by simp [atsR]
def rowsG (g f : List Int) (rs : List (Int × Int)) : Prop := (∀ e ∈ rs, liveP g f e.1 e.2) ∧ (atsR rs).Nodup
def rowsP (g f : List Int) (rs : List (Int × Int)) : Prop := rowsG g f rs ∧ (rs.length : Int) = g.length - f.length
noncomputable instance (g f : List Int) (rs : List (Int × Int)) : Decidable (rowsP g f rs) := Classical.propDecidable _
theorem rowsG_nil (g f : List Int) : rowsG g f [] := ⟨by simp, by simp [atsR]⟩
theorem rowsG_pre {g f : List Int} {a b : List (Int × Int)} (h : rowsG g f (a ++ b)) : rowsG g f a :=
  ⟨fun e he => h.1 e (by simp [he]), by have := h.2; unfold atsR at this ⊢; rw [List.map_append] at this; exact (List.nodup_append.1 this).1⟩
theorem rowsG_snoc {g f : List Int} {a : List (Int × Int)} {e : Int × Int} : rowsG g f (a ++ [e]) ↔ rowsG g f a ∧ liveP g f e.1 e.2 ∧ e.1 ∉ atsR a := by
  constructor
  · intro h
    refine ⟨rowsG_pre h, h.1 e (by simp), fun hm => ?_⟩
    have := h.2
    rw [atsR_snoc] at this
    exact (List.nodup_append.1 this).2.2 _ hm _ (by simp) rfl
  · rintro ⟨h1, h2, h3⟩
    refine ⟨fun x hx => ?_, ?_⟩
    · rcases List.mem_append.1 hx with hx | hx
      · exact h1.1 x hx
      · rw [List.mem_singleton.1 hx]; exact h2
    · rw [atsR_snoc]
      refine List.nodup_append.2 ⟨h1.2, by simp, fun x hx y hy => ?_⟩
      simp at hy; subst hy; rintro rfl; exact h3 hx
theorem rowsG_len {g f : List Int} {a : List (Int × Int)} (h : rowsG g f a) : a.length ≤ g.length := by
  have := len_le_of_nodup g.length (atsR a) (fun x hx => by
    obtain ⟨e, he, rfl⟩ := List.mem_map.1 hx
    have := (h.1 e he).1; omega) h.2
  simpa [atsR] using this
set_option maxHeartbeats 1000000 in
set_option maxRecDepth 100000 in
theorem w48 (w : WorldP) (h : okW w) (hE : freeOk w.1.length w.2.1) : Contract Try.prog false 48 [.ro] [worldR w.1 w.2.1 w.2.2.1 w.2.2.2] [.b (decide (rowsP w.1 w.2.1 (flatR w.2.2.1)))] [] := by
  refine mk_contract [] Try.func48 (c := Try.f48.body.get!) (by kernel_rfl) k48 r48 (of_decide_eq_true rfl) fun _ => ?_
  obtain ⟨h1, h2, ⟨h3, h4⟩, h5⟩ := h
  obtain ⟨g, f, ts, rs⟩ := w
  simp only at h1 h2 h3 h4 h5 hE ⊢
  have hfl : f.length ≤ g.length := len_le_of_nodup _ _ hE.1 hE.2
  unfold c48; simp
  have hF := w88 g f (by omega) (by omega)
  rw [if_pos hE, decide_eq_true hE] at hF
  refine callW_ms [.ro] ?_
  simp
  refine callX_of hF (by simp [entsR]) ?_
  simp
  refine ⟨by omega, ?_⟩
  refine twp_for ts.length (fun j s => s.t 1 = .pt [(3, 0)] 0 0 ∧ s.t 3 = .rf [(16, 0)] 0 g.length ∧ s.t 5 = .rf [(23, 0)] 0 g.length ∧ s.t 6 = .i .i64 (flatR (ts.take j)).length ∧ s.t 23 = .sl false 3 (ts.map tbT) ∧ s.t 24 = .i .i64 ts.length ∧ s.t 25 = .i .i64 j ∧ rowsG g f (flatR (ts.take j)) ∧ s.H = lk [(1, []), (3, [.po true [.sl false 1 (g.map iT), .sl false 1 (f.map iT), .sl false 3 (ts.map tbT), .sl false 4 (rs.map vT)]]), (16, [.sl true 1 ((freeL g.length f).map bT), .b true]), (23, [.sl true 1 ((freeL g.length (atsR (flatR (ts.take j)))).map bT)])]) [10, 12] (by simp) ?_ ?_
  · simp [flatR_nil, atsR_nil, rowsG_nil]
  · rintro j s hj ⟨q1, q3, q5, q6, q23, q24, q25, hG, qH⟩
    rw [nf_of qH]
    simp [q1, q3, q5, q6, q23, q24, q25]
    refine ⟨fun hlt => ?_, fun hge => ?_⟩
    · have hw : IntKind.i64.wrap (j + 1) = j + 1 := wrap_id (by omega) (by omega)
      obtain ⟨t, ht⟩ := get_some hlt
      simp [ht, q1, q3, q5, q6, q23, q24, q25]
      have hsn := flatR_snoc ht
      obtain ⟨A, hA⟩ : ∃ A, A = flatR (ts.take j) := ⟨_, rfl⟩
      rw [← hA] at hsn
      have hpre : ∀ k, ∃ rest, flatR ts = (A ++ t.2.1.take k) ++ rest := fun k => by rw [hA]; exact flatR_pre ht k
      have htl : t.2.1.length ≤ 2^36 := (h4 t (List.mem_of_getElem? ht)).2.1
      have wg : IntKind.i64.wrap ((g.length : Int) - 1) = g.length - 1 := wrap_id (by omega) (by omega)
      have hno : ∀ k e, t.2.1[k]? = some e → ¬ rowsG g f ((A ++ t.2.1.take k) ++ [e]) → ¬ rowsP g f (flatR ts) := fun k e he h1 h2 => by
        obtain ⟨rest, hr⟩ := hpre (k + 1)
        rw [take_snoc he, ← List.append_assoc] at hr
        rw [hr] at h2
        exact h1 (rowsG_pre h2.1)
      refine twp_for t.2.1.length (fun i s2 => s2.t 1 = .pt [(3, 0)] 0 0 ∧ s2.t 3 = .rf [(16, 0)] 0 g.length ∧ s2.t 5 = .rf [(23, 0)] 0 g.length ∧ s2.t 6 = .i .i64 (A ++ t.2.1.take i).length ∧ s2.t 23 = .sl false 3 (ts.map tbT) ∧ s2.t 24 = .i .i64 ts.length ∧ s2.t 25 = .i .i64 j ∧ s2.t 30 = .sl false 2 (t.2.1.map eT) ∧ s2.t 31 = .i .i64 t.2.1.length ∧ s2.t 32 = .i .i64 i ∧ rowsG g f (A ++ t.2.1.take i) ∧ s2.H = lk [(1, []), (3, [.po true [.sl false 1 (g.map iT), .sl false 1 (f.map iT), .sl false 3 (ts.map tbT), .sl false 4 (rs.map vT)]]), (16, [.sl true 1 ((freeL g.length f).map bT), .b true]), (23, [.sl true 1 ((freeL g.length (atsR (A ++ t.2.1.take i))).map bT)]), (10, [.po true [.sl false 1 (t.1.map iT), .sl false 2 (t.2.1.map eT), .sl false 1 (t.2.2.map cvT)]])]) [12] (by simp) ?_ ?_
      · rw [← hA] at hG
        simp [q1, q3, q5, q6, q23, q24, q25, ← hA, hG]
      · rintro i s2 hi ⟨p1, p3, p5, p6, p23, p24, p25, p30, p31, p32, hG2, pH⟩
        obtain ⟨B, hB⟩ : ∃ B, B = A ++ t.2.1.take i := ⟨_, rfl⟩
        have hlen := rowsG_len hG2
        rw [← hB] at hG2 hlen p6 pH
        rw [nf_of pH]
        simp [p1, p3, p5, p6, p23, p24, p25, p30, p31, p32]
        refine ⟨fun hlt2 => ?_, fun hge2 => ?_⟩
        · have hwi : IntKind.i64.wrap (i + 1) = i + 1 := wrap_id (by omega) (by omega)
          obtain ⟨e, he⟩ := get_some hlt2
          have hsn2 := take_snoc he
          have hno2 := hno i e he
          rw [← hB] at hno2
          rw [rowsG_snoc] at hno2
          have hBs : A ++ t.2.1.take (i + 1) = B ++ [e] := by rw [hsn2, hB, List.append_assoc]
          have wB : IntKind.i64.wrap ((B.length : Int) + 1) = B.length + 1 := wrap_id (by omega) (by omega)
          simp [he, p1, p3, p5, p6, p23, p24, p25, p30, p31, p32, wg]
          by_cases hr : 0 ≤ e.1 ∧ e.1 ≤ (g.length : Int) - 1
          rotate_left
          · refine callW_ms [.ro, .ro, .ro] ?_
            simp
            refine callX_of ((w87 _ _ _).f hr) (by simp) ?_
            simp [p1, p3, p5, p6, p23, p24, p25, p30, p31, p32]
            exact hno2 fun h => hr h.2.1.1
          have hgf := freeL_get (n := g.length) (f := f) (x := e.1) hr.1 (by omega)
          have hgB := freeL_get (n := g.length) (f := atsR B) (x := e.1) hr.1 (by omega)
          obtain ⟨y, hy⟩ : ∃ y, g[e.1.toNat]? = some y := get_some (by omega)
          have hr0 := hr.1
          by_cases hf : e.1 ∈ f
          · refine callW_ms [.ro, .ro, .ro] ?_
            simp
            refine callX_of ((w87 _ _ _).t hr) (by simp) ?_
            simp [hgf, hf, hr0, p1, p3, p5, p6, p23, p24, p25, p30, p31, p32]
            exact ⟨by omega, hno2 fun h => h.2.1.2.2 hf⟩
          by_cases hb : e.1 ∈ atsR B
          · refine callW_ms [.ro, .ro, .ro] ?_
            simp
            refine callX_of ((w87 _ _ _).t hr) (by simp) ?_
            simp [hgf, hf, hgB, hb, hr0, p1, p3, p5, p6, p23, p24, p25, p30, p31, p32]
            exact ⟨by omega, hno2 fun h => h.2.2 hb⟩
          have hset : (List.map bT (freeL g.length (atsR B))).set e.1.toNat [.b true] = List.map bT (freeL g.length (atsR (B ++ [e]))) := by
            rw [atsR_snoc, ← freeL_set hr.1 (by omega)]; simp
          refine callW_ms [.ro, .ro, .ro] ?_
          simp
          refine callX_of ((w87 _ _ _).t hr) (by simp) ?_
          simp [hgf, hf, hgB, hb, hy, hr0, hset, wB, hwi, hBs, p1, p3, p5, p6, p23, p24, p25, p30, p31, p32]
          have hBl : B.length = A.length + i := by rw [hB]; simp; omega
          refine ⟨by omega, fun hyv => ⟨by omega, hlt2, by omega, rowsG_snoc.2 ⟨hG2, ⟨hr, by rw [hy, hyv], hf⟩, hb⟩⟩, fun hyv => hno2 fun h => hyv ?_⟩
          have := h.2.1.2.1
          rw [hy] at this
          exact Option.some.inj this
        · obtain rfl : i = t.2.1.length := by omega
          rw [List.take_of_length_le (Nat.le_refl _)] at hB
          rw [hsn, ← hB]
          exact ⟨hlt, rfl, hw, hG2, rfl⟩
    · obtain rfl : j = ts.length := by omega
      rw [wrap_id (by omega) (by omega)]
      rw [List.take_of_length_le (Nat.le_refl _)] at hG ⊢
      exact ⟨fun h => ⟨hG, h⟩, fun h => h.2⟩
end Go.Proofs.YtehmdblkkpdmoaaT

/- Worlds: right tables. -/
namespace Go.Proofs.YtehmdblkkpdmoaaT
set_option linter.unusedVariables false
set_option linter.unusedSimpArgs false
open Go

def fitP (c : DeclsP) (k : Int) (v : ValP) : Prop := (0 ≤ k ∧ k ≤ (c.length : Int) - 1) ∧ ValOkP v ∧ (c[k.toNat]?).map (·.2) = some v.1
noncomputable instance (c : DeclsP) (k : Int) (v : ValP) : Decidable (fitP c k v) := Classical.propDecidable _
theorem fitP_of {c : DeclsP} {k : Int} {v : ValP} {d : ByteArray × Int} (h : 0 ≤ k ∧ k ≤ (c.length : Int) - 1) (hd : c[k.toNat]? = some d) : fitP c k v ↔ ofK d.2 v := by
  unfold fitP ofK
  rw [hd]
  simp only [Option.map_some, Option.some.injEq]
  exact ⟨fun h2 => ⟨h2.2.2.symm, h2.2.1⟩, fun h2 => ⟨h, h2.2, h2.1.symm⟩⟩
theorem w80 (c r e : DeclsP) (k : Int) (v : ValP) (hv : valOkF v) (hc : c.length ≤ 2^40) : Contract Try.prog false 80 [.ro, .ro, .ro] [regR c r e, .i .i64 k, valV v] [.b (decide (fitP c k v))] [] := by
  refine mk_contract [] Try.func80 (c := Try.f80.body.get!) (by kernel_rfl) k80 r80 (of_decide_eq_true rfl) fun _ => ?_
  have hw : IntKind.i64.wrap ((c.length : Int) - 1) = c.length - 1 := wrap_id (by omega) (by omega)
  unfold c80; unfold regR valV; simp [hw]
  by_cases h1 : 0 ≤ k ∧ k ≤ (c.length : Int) - 1
  · obtain ⟨d, hd⟩ : ∃ d, c[k.toNat]? = some d := get_some (by omega)
    refine callW_ms [.ro, .ro, .ro] ?_
    simp
    refine callX_of ((w38 _ _ _).t h1) (by simp) ?_
    simp
    by_cases h2 : ValOkP v
    · refine callW_ms [.ro] ?_
      simp [valV]
      refine callX_of ((w35 v hv).t h2) (by simp) ?_
      simp [hd, h1.1]
      simp [fitP, h1, h2, hd]
      exact ⟨fun h => h.symm, fun h => h.symm⟩
    · refine callW_ms [.ro] ?_
      simp [valV]
      refine callX_of ((w35 v hv).f h2) (by simp) ?_
      simp
      simp [fitP, h2]
  · refine callW_ms [.ro, .ro, .ro] ?_
    simp
    refine callX_of ((w38 _ _ _).f h1) (by simp) ?_
    simp
    have : ¬ fitP c k v := fun h => h1 h.1
    simp [this]
def kindsUp (k : Int) (l : List ValP) : Prop := ∀ v ∈ l, ofK k v
theorem kindsUp_nil (k : Int) : kindsUp k [] := fun _ h => by cases h
theorem kindsUp_snoc {k : Int} {l : List ValP} {v : ValP} (h : kindsUp k l) (hv : ofK k v) : kindsUp k (l ++ [v]) := fun x hx => by
  rcases List.mem_append.1 hx with hx | hx
  · exact h x hx
  · rw [List.mem_singleton.1 hx]; exact hv
/-- A column of a table is right. -/
def colG (c : DeclsP) (t : TableP) (i : Nat) : Prop := ∀ x vs, t.1[i]? = some x → t.2.2[i]? = some vs → vs.length = t.2.1.length ∧ ∀ v ∈ vs, fitP c x v
def tabP (c : DeclsP) (t : TableP) : Prop := colsP t.1 c.length ∧ t.2.2.length = t.1.length ∧ ∀ i, colG c t i
noncomputable instance (c : DeclsP) (t : TableP) : Decidable (tabP c t) := Classical.propDecidable _
def colsUp (c : DeclsP) (t : TableP) (j : Nat) : Prop := ∀ i, i < j → colG c t i
theorem colsUp_zero (c : DeclsP) (t : TableP) : colsUp c t 0 := fun i h => by omega
theorem colsUp_succ {c : DeclsP} {t : TableP} {j : Nat} : colsUp c t (j + 1) ↔ colsUp c t j ∧ colG c t j := by
  constructor
  · intro h; exact ⟨fun i hi => h i (by omega), h j (by omega)⟩
  · rintro ⟨h1, h2⟩ i hi
    by_cases hij : i = j
    · rw [hij]; exact h2
    · exact h1 i (by omega)
theorem colsUp_all {c : DeclsP} {t : TableP} (h : colsUp c t t.1.length) : ∀ i, colG c t i := fun i x vs hx => h i (List.getElem?_eq_some_iff.1 hx).1 x vs hx
set_option maxRecDepth 100000 in
theorem w45 (c r e : DeclsP) (t : TableP) (h : okT t) (hc : c.length ≤ 2^40) : Contract Try.prog false 45 [.ro, .ro] [.po false [.sl false 2 (c.map dT), .sl false 2 (r.map dT), .sl false 2 (e.map dT)], tableR t] [.b (decide (tabP c t))] [] := by
  refine mk_contract [] Try.func45 (c := Try.f45.body.get!) (by kernel_rfl) k45 r45 (of_decide_eq_true rfl) fun _ => ?_
  obtain ⟨h1, h2, h3, h4⟩ := h
  unfold c45; simp
  by_cases hcol : colsP t.1 c.length
  rotate_left
  · refine callW_ms [.ro, .ro] ?_
    simp
    refine callX_of ((w89 t.1 c.length (by omega) hc).f hcol) (by simp) ?_
    simp
    simp [tabP, hcol]
  refine callW_ms [.ro, .ro] ?_
  simp
  refine callX_of ((w89 t.1 c.length (by omega) hc).t hcol) (by simp) ?_
  simp
  refine ⟨fun hl => ?_, fun hl => ?_⟩
  rotate_left
  · have hl2 : ¬ t.2.2.length = t.1.length := fun h => hl (by rw [h])
    exact fun h => hl2 h.2.1
  have hl2 : t.2.2.length = t.1.length := by omega
  refine twp_for t.1.length (fun j s => s.t 0 = .po false [.sl false 2 (c.map dT), .sl false 2 (r.map dT), .sl false 2 (e.map dT)] ∧ s.t 3 = .pt [(5, 0)] 0 0 ∧ s.t 28 = .sl false 1 (t.1.map iT) ∧ s.t 29 = .i .i64 t.1.length ∧ s.t 30 = .i .i64 j ∧ colsUp c t j ∧ s.H = lk [(1, []), (5, [.po true (tbT t)])]) [] (by simp) ?_ ?_
  · simp [colsUp_zero]
  · rintro j s hj ⟨q0, q3, q28, q29, q30, hU, qH⟩
    rw [nf_of qH]
    simp [q0, q3, q28, q29, q30]
    refine ⟨fun hlt => ?_, fun hge => ?_⟩
    · have hw : IntKind.i64.wrap (j + 1) = j + 1 := wrap_id (by omega) (by omega)
      obtain ⟨x, hx⟩ := get_some hlt
      obtain ⟨vs, hvs⟩ := get_some (show j < t.2.2.length by omega)
      have hxr := hcol.1 x (List.mem_of_getElem? hx)
      have hx0 := hxr.1
      obtain ⟨d, hd⟩ : ∃ d, c[x.toNat]? = some d := get_some (by omega)
      have hvl := h4 vs (List.mem_of_getElem? hvs)
      have hcg : colG c t j ↔ vs.length = t.2.1.length ∧ ∀ v ∈ vs, ofK d.2 v := by
        constructor
        · intro h
          obtain ⟨g1, g2⟩ := h x vs hx hvs
          exact ⟨g1, fun v hv => (fitP_of hxr hd).1 (g2 v hv)⟩
        · rintro ⟨g1, g2⟩ x' vs' hx' hvs'
          rw [hx] at hx'; rw [hvs] at hvs'; cases hx'; cases hvs'
          exact ⟨g1, fun v hv => (fitP_of hxr hd).2 (g2 v hv)⟩
      have hno : ¬ colG c t j → ¬ tabP c t := fun h h2 => h (h2.2.2 j)
      simp [hx, hvs, q0, q3, q28, q29, q30]
      refine ⟨fun hvr => ?_, fun hvr => hno fun h => hvr (by rw [(hcg.1 h).1])⟩
      have hvr2 : vs.length = t.2.1.length := by omega
      refine twp_for vs.length (fun i s2 => s2.t 0 = .po false [.sl false 2 (c.map dT), .sl false 2 (r.map dT), .sl false 2 (e.map dT)] ∧ s2.t 3 = .pt [(5, 0)] 0 0 ∧ s2.t 6 = .i .i64 x ∧ s2.t 28 = .sl false 1 (t.1.map iT) ∧ s2.t 29 = .i .i64 t.1.length ∧ s2.t 30 = .i .i64 j ∧ s2.t 49 = .sl false 4 (vs.map vT) ∧ s2.t 50 = .i .i64 vs.length ∧ s2.t 51 = .i .i64 i ∧ kindsUp d.2 (vs.take i) ∧ s2.H = lk [(1, []), (5, [.po true (tbT t)])]) [10] (by simp) ?_ ?_
      · simp [q0, q3, q28, q29, q30, hvr, kindsUp_nil]
      · rintro i s2 hi ⟨p0, p3, p6, p28, p29, p30, p49, p50, p51, hV, pH⟩
        rw [nf_of pH]
        simp [p0, p3, p6, p28, p29, p30, p49, p50, p51]
        refine ⟨fun hlt2 => ?_, fun hge2 => ?_⟩
        · have hwi : IntKind.i64.wrap (i + 1) = i + 1 := wrap_id (by omega) (by omega)
          obtain ⟨v, hv⟩ := get_some hlt2
          have hsn := take_snoc hv
          simp [hv, hd, hx0, p0, p3, p6, p28, p29, p30, p49, p50, p51]
          by_cases hk : ofK d.2 v
          · refine callW_ms [.ro, .ro] ?_
            simp [valV]
            refine callX_of ((w47 v d.2).t hk) (by simp) ?_
            simp [hwi, hvr, p0, p3, p6, p28, p29, p30, p49, p50, p51]
            rw [hsn]
            exact ⟨by omega, kindsUp_snoc hV hk⟩
          · refine callW_ms [.ro, .ro] ?_
            simp [valV]
            refine callX_of ((w47 v d.2).f hk) (by simp) ?_
            simp [hwi, p0, p3, p6, p28, p29, p30, p49, p50, p51]
            exact hno fun h => hk ((hcg.1 h).2 v (List.mem_of_getElem? hv))
        · obtain rfl : i = vs.length := by omega
          rw [List.take_of_length_le (Nat.le_refl _)] at hV
          exact ⟨hlt, hw, colsUp_succ.2 ⟨hU, hcg.2 ⟨hvr2, hV⟩⟩⟩
    · obtain rfl : j = t.1.length := by omega
      exact ⟨hcol, hl2, colsUp_all hU⟩
def stabP (c : DeclsP) (t : TableP) : Prop := (t.1.length ≤ 12 ∧ t.2.1.length ≤ 2000) ∧ tabP c t
noncomputable instance (c : DeclsP) (t : TableP) : Decidable (stabP c t) := Classical.propDecidable _
set_option maxRecDepth 100000 in
theorem w36 (c r e : DeclsP) (t : TableP) (h : okT t) (hc : c.length ≤ 2^40) (hf : ∀ vs ∈ t.2.2, valsF vs) : Contract Try.prog false 36 [.ro, .ro] [regR c r e, tableR t] [.b (decide (stabP c t))] [] := by
  refine mk_contract [] Try.func36 (c := Try.f36.body.get!) (by kernel_rfl) k36 r36 (of_decide_eq_true rfl) fun _ => ?_
  obtain ⟨h1, h2, h3, h4⟩ := h
  unfold c36; unfold regR; simp
  cases hb1 : decide ((12 : Int) < (t.1.length : Int))
  rotate_left
  · have : (12 : Int) < t.1.length := of_decide_eq_true hb1
    have hno : ¬ stabP c t := fun h => by have := h.1.1; omega
    simp [hb1, hno]
  have hl1 : t.1.length ≤ 12 := by have := of_decide_eq_false hb1; omega
  simp [hb1]
  by_cases hcol : colsP t.1 c.length
  rotate_left
  · refine callW_ms [.ro, .ro] ?_
    simp
    refine callX_of ((w79 t.1 c.length (by omega) hc).f hcol) (by simp) ?_
    simp
    exact fun h => hcol h.2.1
  refine callW_ms [.ro, .ro] ?_
  simp
  refine callX_of ((w79 t.1 c.length (by omega) hc).t hcol) (by simp) ?_
  simp
  by_cases hl2 : t.2.2.length = t.1.length
  rotate_left
  · have hl3 : ¬ ((t.2.2.length : Int) = t.1.length) := by omega
    have hno : ¬ stabP c t := fun h => hl2 h.2.2.1
    simp [hl3, hno]
  simp [hl2]
  refine ⟨fun hl4 => fun h => by have := h.1.2; omega, fun hl4 => ?_⟩
  have hno : ∀ i, ¬ colG c t i → ¬ stabP c t := fun i h h2 => h (h2.2.2.2 i)
  refine twp_for t.1.length (fun j s => s.t 2 = .pt [(4, 0)] 0 0 ∧ s.t 3 = .pt [(5, 0)] 0 0 ∧ s.t 5 = .i .i64 j ∧ colsUp c t j ∧ s.H = lk [(1, []), (4, [.po true [.sl false 2 (c.map dT), .sl false 2 (r.map dT), .sl false 2 (e.map dT)]]), (5, [.po true (tbT t)])]) [] (by simp) ?_ ?_
  · simp [colsUp_zero]
  · rintro j s hj ⟨q2, q3, q5, hU, qH⟩
    rw [nf_of qH]
    simp [q2, q3, q5, hl2]
    refine ⟨fun hlt => ?_, fun hge => ?_⟩
    · have hw : IntKind.i64.wrap (j + 1) = j + 1 := wrap_id (by omega) (by omega)
      obtain ⟨x, hx⟩ := get_some hlt
      obtain ⟨vs, hvs⟩ := get_some (show j < t.2.2.length by omega)
      have hxr := hcol.1 x (List.mem_of_getElem? hx)
      have hx0 := hxr.1
      obtain ⟨d, hd⟩ : ∃ d, c[x.toNat]? = some d := get_some (by omega)
      have hvl := h4 vs (List.mem_of_getElem? hvs)
      have hvf := hf vs (List.mem_of_getElem? hvs)
      have hcg : colG c t j ↔ vs.length = t.2.1.length ∧ ∀ v ∈ vs, ofK d.2 v := by
        constructor
        · intro h
          obtain ⟨g1, g2⟩ := h x vs hx hvs
          exact ⟨g1, fun v hv => (fitP_of hxr hd).1 (g2 v hv)⟩
        · rintro ⟨g1, g2⟩ x' vs' hx' hvs'
          rw [hx] at hx'; rw [hvs] at hvs'; cases hx'; cases hvs'
          exact ⟨g1, fun v hv => (fitP_of hxr hd).2 (g2 v hv)⟩
      simp [hx, hvs, hl2, q2, q3, q5]
      refine ⟨fun hvr => ?_, fun hvr => hno j fun h => hvr (by rw [(hcg.1 h).1])⟩
      have hvr2 : vs.length = t.2.1.length := by omega
      refine twp_for t.2.1.length (fun i s2 => s2.t 2 = .pt [(4, 0)] 0 0 ∧ s2.t 3 = .pt [(5, 0)] 0 0 ∧ s2.t 5 = .i .i64 j ∧ s2.t 6 = .i .i64 i ∧ kindsUp d.2 (vs.take i) ∧ s2.H = lk [(1, []), (4, [.po true [.sl false 2 (c.map dT), .sl false 2 (r.map dT), .sl false 2 (e.map dT)]]), (5, [.po true (tbT t)])]) [] (by simp) ?_ ?_
      · simp [q2, q3, q5, kindsUp_nil]
      · rintro i s2 hi ⟨p2, p3, p5, p6, hV, pH⟩
        rw [nf_of pH]
        simp [p2, p3, p5, p6]
        refine ⟨fun hlt2 => ?_, fun hge2 => ?_⟩
        · have hwi : IntKind.i64.wrap (i + 1) = i + 1 := wrap_id (by omega) (by omega)
          obtain ⟨v, hv⟩ := get_some (show i < vs.length by omega)
          have hsn := take_snoc hv
          simp [hv, hx, hvs, hl2, p2, p3, p5, p6]
          by_cases hk : fitP c x v
          · refine callW_ms [.ro, .ro, .ro] ?_
            simp [regR, valV]
            refine callX_of ((w80 c r e x v (hvf v (List.mem_of_getElem? hv)) hc).t hk) (by simp) ?_
            simp [hwi, p2, p3, p5, p6]
            rw [hsn]
            exact ⟨by omega, kindsUp_snoc hV ((fitP_of hxr hd).1 hk)⟩
          · refine callW_ms [.ro, .ro, .ro] ?_
            simp [regR, valV]
            refine callX_of ((w80 c r e x v (hvf v (List.mem_of_getElem? hv)) hc).f hk) (by simp) ?_
            simp [hwi, p2, p3, p5, p6]
            exact hno j fun h => hk ((fitP_of hxr hd).2 ((hcg.1 h).2 v (List.mem_of_getElem? hv)))
        · obtain rfl : i = t.2.1.length := by omega
          rw [List.take_of_length_le (by omega)] at hV
          exact ⟨hlt, hw, colsUp_succ.2 ⟨hU, hcg.2 ⟨hvr2, hV⟩⟩⟩
    · obtain rfl : j = t.1.length := by omega
      exact ⟨⟨hl1, by omega⟩, hcol, hl2, colsUp_all hU⟩
end Go.Proofs.YtehmdblkkpdmoaaT

/- Worlds: right or not. -/
namespace Go.Proofs.YtehmdblkkpdmoaaT
set_option linter.unusedVariables false
set_option linter.unusedSimpArgs false
open Go

/- spec.WorldOk -/
def c9 : TCode := (.seq (.ops [⟨(some 2), 4, .box 3 (.t 0), none, []⟩, ⟨(some 3), 5, .box 4 (.t 1), none, []⟩, ⟨(some 4), 6, .mv (.c (.b false)), none, []⟩])
  (.seq (.seq (.ops [⟨(some 15), 17, .load true 3 (.t 2), none, []⟩, ⟨(some 16), 18, .call 33 [((.t 15), 0)], none, []⟩, ⟨(some 17), 19, .un .not (.t 16), none, []⟩, ⟨(some 18), 20, .mv (.t 17), none, []⟩, ⟨(some 19), 21, .faddr 0 2 (.t 3), (some (18, false)), []⟩, ⟨(some 20), 22, .load true 2 (.t 19), (some (18, false)), []⟩, ⟨(some 21), 23, .call 34 [((.t 20), 0)], (some (18, false)), []⟩, ⟨(some 22), 24, .un .not (.t 21), (some (18, false)), []⟩, ⟨(some 23), 25, .pick (.t 18) (.c (.b true)) (.t 22), none, []⟩, ⟨(some 24), 26, .mv (.t 23), none, []⟩, ⟨(some 25), 27, .faddr 2 1 (.t 3), (some (24, false)), []⟩, ⟨(some 26), 28, .load false 1 (.t 25), (some (24, false)), []⟩, ⟨(some 27), 29, .len false (.t 26), (some (24, false)), []⟩, ⟨(some 28), 30, .bin .gtr (.t 27) (.c (.i .i64 40)), (some (24, false)), []⟩, ⟨(some 29), 31, .pick (.t 24) (.c (.b true)) (.t 28), none, []⟩, ⟨(some 30), 32, .mv (.t 29), none, []⟩, ⟨(some 31), 33, .faddr 3 1 (.t 3), (some (30, false)), []⟩, ⟨(some 32), 34, .load false 1 (.t 31), (some (30, false)), []⟩, ⟨(some 33), 35, .len false (.t 32), (some (30, false)), []⟩, ⟨(some 34), 36, .faddr 1 1 (.t 2), (some (30, false)), []⟩, ⟨(some 35), 37, .load false 1 (.t 34), (some (30, false)), []⟩, ⟨(some 36), 38, .len false (.t 35), (some (30, false)), []⟩, ⟨(some 37), 39, .bin .neq (.t 33) (.t 36), (some (30, false)), []⟩, ⟨(some 38), 40, .pick (.t 30) (.c (.b true)) (.t 37), none, []⟩])
  (.cond (.t 38)
  (.seq (.ops [⟨(some 4), 6, .mv (.c (.b false)), none, []⟩])
  .ret)
  .skip))
  (.seq (.seq (.ops [⟨(some 5), 7, .mv (.c (.i .i64 0)), none, []⟩])
  (.block 0 (.loop (.seq (.seq (.ops [⟨(some 39), 41, .mv (.t 5), none, []⟩, ⟨(some 40), 42, .faddr 3 1 (.t 3), none, []⟩, ⟨(some 41), 43, .load false 1 (.t 40), none, []⟩, ⟨(some 42), 44, .len false (.t 41), none, []⟩, ⟨(some 43), 45, .bin .lss (.t 39) (.t 42), none, []⟩])
  (.cond (.t 43)
  .skip
  (.exit 0)))
  (.seq (.block 1 (.seq (.draw [⟨(some 46), 48, .faddr 3 1 (.t 3), none, []⟩, ⟨(some 47), 49, .load false 1 (.t 46), none, []⟩, ⟨(some 48), 50, .mv (.t 5), none, []⟩, ⟨(some 49), 51, .iaddr 4 (.t 47) (.t 48), none, []⟩, ⟨(some 50), 52, .load true 4 (.t 49), none, []⟩, ⟨(some 51), 53, .call 35 [((.t 50), 0)], none, []⟩, ⟨(some 52), 54, .un .not (.t 51), none, []⟩, ⟨(some 53), 55, .mv (.t 52), none, []⟩, ⟨(some 54), 56, .faddr 3 1 (.t 3), (some (53, false)), []⟩, ⟨(some 55), 57, .load false 1 (.t 54), (some (53, false)), []⟩, ⟨(some 56), 58, .mv (.t 5), (some (53, false)), []⟩, ⟨(some 57), 59, .iaddr 4 (.t 55) (.t 56), (some (53, false)), []⟩, ⟨(some 58), 60, .faddr 0 1 (.t 57), (some (53, false)), []⟩, ⟨(some 59), 61, .load false 1 (.t 58), (some (53, false)), []⟩, ⟨(some 60), 62, .faddr 1 1 (.t 2), (some (53, false)), []⟩, ⟨(some 61), 63, .load false 1 (.t 60), (some (53, false)), []⟩, ⟨(some 62), 64, .mv (.t 5), (some (53, false)), []⟩, ⟨(some 63), 65, .iaddr 2 (.t 61) (.t 62), (some (53, false)), []⟩, ⟨(some 64), 66, .faddr 1 1 (.t 63), (some (53, false)), []⟩, ⟨(some 65), 67, .load false 1 (.t 64), (some (53, false)), []⟩, ⟨(some 66), 68, .bin .neq (.t 59) (.t 65), (some (53, false)), []⟩, ⟨(some 67), 69, .pick (.t 53) (.c (.b true)) (.t 66), none, []⟩])
  (.cond (.t 67)
  (.seq (.ops [⟨(some 4), 6, .mv (.c (.b false)), none, []⟩])
  .ret)
  .skip)))
  (.ops [⟨(some 44), 46, .mv (.t 5), none, []⟩, ⟨(some 45), 47, .bin .add (.t 44) (.c (.i .i64 1)), none, []⟩, ⟨(some 5), 7, .mv (.t 45), none, []⟩]))))))
  (.seq (.ops [⟨(some 68), 70, .faddr 0 2 (.t 3), none, []⟩, ⟨(some 69), 71, .faddr 0 1 (.t 68), none, []⟩, ⟨(some 70), 72, .load false 1 (.t 69), none, []⟩, ⟨(some 71), 73, .len false (.t 70), none, []⟩, ⟨(some 72), 74, .mkslice 1 1 [(.b false)] (.t 71) (.t 71), none, []⟩, ⟨(some 6), 8, .mv (.t 72), none, []⟩])
  (.seq (.ops [⟨(some 73), 75, .faddr 0 2 (.t 3), none, []⟩, ⟨(some 74), 76, .load true 2 (.t 73), none, []⟩, ⟨(some 75), 77, .call 28 [((.t 74), 0)], none, []⟩, ⟨(some 7), 9, .mv (.t 75), none, []⟩])
  (.seq (.seq (.ops [⟨(some 8), 10, .mv (.c (.i .i64 0)), none, []⟩])
  (.block 2 (.loop (.seq (.seq (.ops [⟨(some 76), 78, .mv (.t 8), none, []⟩, ⟨(some 77), 79, .mv (.t 7), none, []⟩, ⟨(some 78), 80, .len false (.t 77), none, []⟩, ⟨(some 79), 81, .bin .lss (.t 76) (.t 78), none, []⟩])
  (.cond (.t 79)
  .skip
  (.exit 2)))
  (.seq (.block 3 (.ops [⟨(some 82), 84, .mv (.t 6), none, []⟩, ⟨(some 83), 85, .mv (.t 7), none, []⟩, ⟨(some 84), 86, .mv (.t 8), none, []⟩, ⟨(some 85), 87, .iaddr 2 (.t 83) (.t 84), none, []⟩, ⟨(some 86), 88, .faddr 0 1 (.t 85), none, []⟩, ⟨(some 87), 89, .load false 1 (.t 86), none, []⟩, ⟨(some 88), 90, .iaddr 1 (.t 82) (.t 87), none, []⟩, ⟨none, 1013007, .store 1 (.t 88) (.c (.b true)), none, []⟩]))
  (.ops [⟨(some 80), 82, .mv (.t 8), none, []⟩, ⟨(some 81), 83, .bin .add (.t 80) (.c (.i .i64 1)), none, []⟩, ⟨(some 8), 10, .mv (.t 81), none, []⟩]))))))
  (.seq (.ops [⟨(some 9), 11, .mv (.c (.i .i64 0)), none, []⟩])
  (.seq (.seq (.ops [⟨(some 10), 12, .mv (.c (.i .i64 0)), none, []⟩])
  (.block 4 (.loop (.seq (.seq (.ops [⟨(some 89), 91, .mv (.t 10), none, []⟩, ⟨(some 90), 92, .faddr 2 1 (.t 3), none, []⟩, ⟨(some 91), 93, .load false 1 (.t 90), none, []⟩, ⟨(some 92), 94, .len false (.t 91), none, []⟩, ⟨(some 93), 95, .bin .lss (.t 89) (.t 92), none, []⟩])
  (.cond (.t 93)
  .skip
  (.exit 4)))
  (.seq (.block 5 (.seq (.ops [⟨(some 96), 98, .faddr 2 1 (.t 3), none, []⟩, ⟨(some 97), 99, .load false 1 (.t 96), none, []⟩, ⟨(some 98), 100, .mv (.t 10), none, []⟩, ⟨(some 99), 101, .iaddr 3 (.t 97) (.t 98), none, []⟩, ⟨(some 100), 102, .load true 3 (.t 99), none, []⟩, ⟨(some 11), 13, .box 3 (.c (.ag [(.sl true 1 []), (.sl true 2 []), (.sl true 1 [])])), none, []⟩, ⟨none, 1018006, .store 3 (.t 11) (.t 100), none, []⟩])
  (.seq (.seq (.ops [⟨(some 101), 103, .load true 3 (.t 2), none, []⟩, ⟨(some 102), 104, .load true 3 (.t 11), none, []⟩, ⟨(some 103), 105, .call 36 [((.t 101), 0), ((.t 102), 0)], none, []⟩, ⟨(some 104), 106, .un .not (.t 103), none, []⟩])
  (.cond (.t 104)
  (.seq (.ops [⟨(some 4), 6, .mv (.c (.b false)), none, []⟩])
  .ret)
  .skip))
  (.seq (.seq (.ops [⟨(some 12), 14, .mv (.c (.i .i64 0)), none, []⟩])
  (.block 6 (.loop (.seq (.seq (.ops [⟨(some 105), 107, .mv (.t 12), none, []⟩, ⟨(some 106), 108, .mv (.t 10), none, []⟩, ⟨(some 107), 109, .bin .lss (.t 105) (.t 106), none, []⟩])
  (.cond (.t 107)
  .skip
  (.exit 6)))
  (.seq (.block 7 (.seq (.draw [⟨(some 110), 112, .faddr 2 1 (.t 3), none, []⟩, ⟨(some 111), 113, .load false 1 (.t 110), none, []⟩, ⟨(some 112), 114, .mv (.t 12), none, []⟩, ⟨(some 113), 115, .iaddr 3 (.t 111) (.t 112), none, []⟩, ⟨(some 114), 116, .faddr 0 1 (.t 113), none, []⟩, ⟨(some 115), 117, .load false 1 (.t 114), none, []⟩, ⟨(some 116), 118, .faddr 0 1 (.t 11), none, []⟩, ⟨(some 117), 119, .load false 1 (.t 116), none, []⟩, ⟨(some 118), 120, .call 37 [((.t 115), 0), ((.t 117), 0)], none, []⟩])
  (.cond (.t 118)
  (.seq (.ops [⟨(some 4), 6, .mv (.c (.b false)), none, []⟩])
  .ret)
  .skip)))
  (.ops [⟨(some 108), 110, .mv (.t 12), none, []⟩, ⟨(some 109), 111, .bin .add (.t 108) (.c (.i .i64 1)), none, []⟩, ⟨(some 12), 14, .mv (.t 109), none, []⟩]))))))
  (.seq (.ops [⟨(some 13), 15, .mv (.c (.i .i64 0)), none, []⟩])
  (.block 8 (.loop (.seq (.seq (.ops [⟨(some 119), 121, .mv (.t 13), none, []⟩, ⟨(some 120), 122, .faddr 1 1 (.t 11), none, []⟩, ⟨(some 121), 123, .load false 1 (.t 120), none, []⟩, ⟨(some 122), 124, .len false (.t 121), none, []⟩, ⟨(some 123), 125, .bin .lss (.t 119) (.t 122), none, []⟩])
  (.cond (.t 123)
  .skip
  (.exit 8)))
  (.seq (.block 9 (.seq (.ops [⟨(some 126), 128, .faddr 1 1 (.t 11), none, []⟩, ⟨(some 127), 129, .load false 1 (.t 126), none, []⟩, ⟨(some 128), 130, .mv (.t 13), none, []⟩, ⟨(some 129), 131, .iaddr 2 (.t 127) (.t 128), none, []⟩, ⟨(some 130), 132, .load true 2 (.t 129), none, []⟩, ⟨(some 14), 16, .box 2 (.c (.ag [(.i .i64 0), (.i .i64 0)])), none, []⟩, ⟨none, 1029006, .store 2 (.t 14) (.t 130), none, []⟩])
  (.seq (.seq (.draw [⟨(some 131), 133, .faddr 0 1 (.t 14), none, []⟩, ⟨(some 132), 134, .load false 1 (.t 131), none, []⟩, ⟨(some 133), 135, .mv (.t 6), none, []⟩, ⟨(some 134), 136, .len false (.t 133), none, []⟩, ⟨(some 135), 137, .bin .sub (.t 134) (.c (.i .i64 1)), none, []⟩, ⟨(some 136), 138, .call 38 [((.t 132), 0), ((.c (.i .i64 0)), 0), ((.t 135), 0)], none, []⟩, ⟨(some 137), 139, .un .not (.t 136), none, []⟩, ⟨(some 138), 140, .mv (.t 137), none, []⟩, ⟨(some 139), 141, .mv (.t 6), (some (138, false)), []⟩, ⟨(some 140), 142, .faddr 0 1 (.t 14), (some (138, false)), []⟩, ⟨(some 141), 143, .load false 1 (.t 140), (some (138, false)), []⟩, ⟨(some 142), 144, .iaddr 1 (.t 139) (.t 141), (some (138, false)), []⟩, ⟨(some 143), 145, .load false 1 (.t 142), (some (138, false)), []⟩, ⟨(some 144), 146, .un .not (.t 143), (some (138, false)), []⟩, ⟨(some 145), 147, .pick (.t 138) (.c (.b true)) (.t 144), none, []⟩, ⟨(some 146), 148, .mv (.t 145), none, []⟩, ⟨(some 147), 149, .faddr 0 2 (.t 3), (some (146, false)), []⟩, ⟨(some 148), 150, .faddr 0 1 (.t 147), (some (146, false)), []⟩, ⟨(some 149), 151, .load false 1 (.t 148), (some (146, false)), []⟩, ⟨(some 150), 152, .faddr 0 1 (.t 14), (some (146, false)), []⟩, ⟨(some 151), 153, .load false 1 (.t 150), (some (146, false)), []⟩, ⟨(some 152), 154, .iaddr 1 (.t 149) (.t 151), (some (146, false)), []⟩, ⟨(some 153), 155, .load false 1 (.t 152), (some (146, false)), []⟩, ⟨(some 154), 156, .faddr 1 1 (.t 14), (some (146, false)), []⟩, ⟨(some 155), 157, .load false 1 (.t 154), (some (146, false)), []⟩, ⟨(some 156), 158, .bin .neq (.t 153) (.t 155), (some (146, false)), []⟩, ⟨(some 157), 159, .pick (.t 146) (.c (.b true)) (.t 156), none, []⟩])
  (.cond (.t 157)
  (.seq (.ops [⟨(some 4), 6, .mv (.c (.b false)), none, []⟩])
  .ret)
  .skip))
  (.seq (.ops [⟨(some 158), 160, .mv (.t 6), none, []⟩, ⟨(some 159), 161, .faddr 0 1 (.t 14), none, []⟩, ⟨(some 160), 162, .load false 1 (.t 159), none, []⟩, ⟨(some 161), 163, .iaddr 1 (.t 158) (.t 160), none, []⟩, ⟨none, 1032004, .store 1 (.t 161) (.c (.b false)), none, []⟩])
  (.ops [⟨(some 162), 164, .mv (.t 9), none, []⟩, ⟨(some 163), 165, .bin .add (.t 162) (.c (.i .i64 1)), none, []⟩, ⟨(some 9), 11, .mv (.t 163), none, []⟩])))))
  (.ops [⟨(some 124), 126, .mv (.t 13), none, []⟩, ⟨(some 125), 127, .bin .add (.t 124) (.c (.i .i64 1)), none, []⟩, ⟨(some 13), 15, .mv (.t 125), none, []⟩]))))))))))
  (.ops [⟨(some 94), 96, .mv (.t 10), none, []⟩, ⟨(some 95), 97, .bin .add (.t 94) (.c (.i .i64 1)), none, []⟩, ⟨(some 10), 12, .mv (.t 95), none, []⟩]))))))
  (.seq (.ops [⟨(some 164), 166, .mv (.t 9), none, []⟩, ⟨(some 165), 167, .mv (.t 7), none, []⟩, ⟨(some 166), 168, .len false (.t 165), none, []⟩, ⟨(some 167), 169, .bin .eql (.t 164) (.t 166), none, []⟩, ⟨(some 4), 6, .mv (.t 167), none, []⟩])
  .ret)))))))))
theorem k9 : compCode Try.prog Try.f9.ntmps Try.f9.body.get! = some c9 := by kernel_rfl
theorem r9 : resTmps Try.prog Try.f9.results.toList = some [.tmp 4] := by kernel_rfl
/- impl.WorldOk -/
def c12 : TCode := (.seq (.ops [⟨(some 2), 4, .box 3 (.t 0), none, []⟩, ⟨(some 3), 5, .box 4 (.t 1), none, []⟩, ⟨(some 4), 6, .mv (.c (.b false)), none, []⟩])
  (.seq (.seq (.ops [⟨(some 9), 11, .load true 3 (.t 2), none, []⟩, ⟨(some 10), 12, .call 43 [((.t 9), 0)], none, []⟩, ⟨(some 11), 13, .un .not (.t 10), none, []⟩, ⟨(some 12), 14, .mv (.t 11), none, []⟩, ⟨(some 13), 15, .faddr 0 2 (.t 3), (some (12, false)), []⟩, ⟨(some 14), 16, .load true 2 (.t 13), (some (12, false)), []⟩, ⟨(some 15), 17, .call 44 [((.t 14), 0)], (some (12, false)), []⟩, ⟨(some 16), 18, .un .not (.t 15), (some (12, false)), []⟩, ⟨(some 17), 19, .pick (.t 12) (.c (.b true)) (.t 16), none, []⟩, ⟨(some 18), 20, .mv (.t 17), none, []⟩, ⟨(some 19), 21, .faddr 2 1 (.t 3), (some (18, false)), []⟩, ⟨(some 20), 22, .load false 1 (.t 19), (some (18, false)), []⟩, ⟨(some 21), 23, .len false (.t 20), (some (18, false)), []⟩, ⟨(some 22), 24, .bin .gtr (.t 21) (.c (.i .i64 40)), (some (18, false)), []⟩, ⟨(some 23), 25, .pick (.t 18) (.c (.b true)) (.t 22), none, []⟩, ⟨(some 24), 26, .mv (.t 23), none, []⟩, ⟨(some 25), 27, .faddr 3 1 (.t 3), (some (24, false)), []⟩, ⟨(some 26), 28, .load false 1 (.t 25), (some (24, false)), []⟩, ⟨(some 27), 29, .len false (.t 26), (some (24, false)), []⟩, ⟨(some 28), 30, .faddr 1 1 (.t 2), (some (24, false)), []⟩, ⟨(some 29), 31, .load false 1 (.t 28), (some (24, false)), []⟩, ⟨(some 30), 32, .len false (.t 29), (some (24, false)), []⟩, ⟨(some 31), 33, .bin .neq (.t 27) (.t 30), (some (24, false)), []⟩, ⟨(some 32), 34, .pick (.t 24) (.c (.b true)) (.t 31), none, []⟩])
  (.cond (.t 32)
  (.seq (.ops [⟨(some 4), 6, .mv (.c (.b false)), none, []⟩])
  .ret)
  .skip))
  (.seq (.seq (.ops [⟨(some 33), 35, .faddr 2 1 (.t 3), none, []⟩, ⟨(some 34), 36, .load false 1 (.t 33), none, []⟩, ⟨(some 35), 37, .len false (.t 34), none, []⟩, ⟨(some 36), 38, .mv (.c (.i .i64 0)), none, []⟩])
  (.block 0 (.loop (.seq (.ops [⟨(some 37), 39, .bin .lss (.t 36) (.t 35), none, []⟩])
  (.seq (.cond (.t 37)
  .skip
  (.exit 0))
  (.seq (.block 1 (.seq (.ops [⟨(some 38), 40, .mv (.t 36), none, []⟩, ⟨(some 39), 41, .iaddr 3 (.t 34) (.t 36), none, []⟩, ⟨(some 40), 42, .load true 3 (.t 39), none, []⟩, ⟨(some 6), 8, .box 3 (.c (.ag [(.sl true 1 []), (.sl true 2 []), (.sl true 1 [])])), none, []⟩, ⟨(some 5), 7, .mv (.t 38), none, []⟩, ⟨none, 1005005, .store 3 (.t 6) (.t 40), none, []⟩])
  (.seq (.ops [⟨(some 41), 43, .load true 3 (.t 6), none, []⟩, ⟨(some 42), 44, .call 45 [((.t 2), 3), ((.t 41), 0)], none, []⟩, ⟨(some 43), 45, .un .not (.t 42), none, []⟩, ⟨(some 44), 46, .mv (.t 43), none, []⟩, ⟨(some 45), 47, .faddr 0 1 (.t 6), (some (44, false)), []⟩, ⟨(some 46), 48, .load false 1 (.t 45), (some (44, false)), []⟩, ⟨(some 47), 49, .call 46 [((.t 3), 0), ((.t 46), 0)], (some (44, false)), []⟩, ⟨(some 48), 50, .mv (.t 5), (some (44, false)), []⟩, ⟨(some 49), 51, .bin .neq (.t 47) (.t 48), (some (44, false)), []⟩, ⟨(some 50), 52, .pick (.t 44) (.c (.b true)) (.t 49), none, []⟩])
  (.cond (.t 50)
  (.seq (.ops [⟨(some 4), 6, .mv (.c (.b false)), none, []⟩])
  .ret)
  .skip))))
  (.ops [⟨(some 51), 53, .bin .add (.t 36) (.c (.i .i64 1)), none, []⟩, ⟨(some 36), 38, .mv (.t 51), none, []⟩])))))))
  (.seq (.seq (.ops [⟨(some 52), 54, .faddr 3 1 (.t 3), none, []⟩, ⟨(some 53), 55, .load false 1 (.t 52), none, []⟩, ⟨(some 54), 56, .len false (.t 53), none, []⟩, ⟨(some 55), 57, .mv (.c (.i .i64 0)), none, []⟩])
  (.block 2 (.loop (.seq (.ops [⟨(some 56), 58, .bin .lss (.t 55) (.t 54), none, []⟩])
  (.seq (.cond (.t 56)
  .skip
  (.exit 2))
  (.seq (.block 3 (.seq (.ops [⟨(some 57), 59, .mv (.t 55), none, []⟩, ⟨(some 58), 60, .iaddr 4 (.t 53) (.t 55), none, []⟩, ⟨(some 59), 61, .load true 4 (.t 58), none, []⟩, ⟨(some 8), 10, .box 4 (.c (.ag [(.i .i64 0), (.i .i64 0), (.f 0), (.f 0)])), none, []⟩, ⟨(some 7), 9, .mv (.t 57), none, []⟩, ⟨none, 1011005, .store 4 (.t 8) (.t 59), none, []⟩])
  (.seq (.draw [⟨(some 60), 62, .load true 4 (.t 8), none, []⟩, ⟨(some 61), 63, .faddr 1 1 (.t 2), none, []⟩, ⟨(some 62), 64, .load false 1 (.t 61), none, []⟩, ⟨(some 63), 65, .mv (.t 7), none, []⟩, ⟨(some 64), 66, .iaddr 2 (.t 62) (.t 63), none, []⟩, ⟨(some 65), 67, .faddr 1 1 (.t 64), none, []⟩, ⟨(some 66), 68, .load false 1 (.t 65), none, []⟩, ⟨(some 67), 69, .call 47 [((.t 60), 0), ((.t 66), 0)], none, []⟩, ⟨(some 68), 70, .un .not (.t 67), none, []⟩])
  (.cond (.t 68)
  (.seq (.ops [⟨(some 4), 6, .mv (.c (.b false)), none, []⟩])
  .ret)
  .skip))))
  (.ops [⟨(some 69), 71, .bin .add (.t 55) (.c (.i .i64 1)), none, []⟩, ⟨(some 55), 57, .mv (.t 69), none, []⟩])))))))
  (.seq (.ops [⟨(some 70), 72, .load true 4 (.t 3), none, []⟩, ⟨(some 71), 73, .call 48 [((.t 70), 0)], none, []⟩, ⟨(some 4), 6, .mv (.t 71), none, []⟩])
  .ret)))))
theorem k12 : compCode Try.prog Try.f12.ntmps Try.f12.body.get! = some c12 := by kernel_rfl
theorem r12 : resTmps Try.prog Try.f12.results.toList = some [.tmp 4] := by kernel_rfl
/- laws.FnExactWorldOk -/
def c3 : TCode := (.seq (.ops [⟨(some 2), 4, .box 3 (.t 0), none, []⟩, ⟨(some 3), 5, .box 4 (.t 1), none, []⟩, ⟨(some 4), 6, .mv (.c (.b false)), none, []⟩])
  (.seq (.ops [⟨(some 5), 7, .mv (.c (.i .i64 1048576)), none, []⟩])
  (.seq (.ops [⟨(some 10), 12, .load true 3 (.t 2), none, []⟩, ⟨(some 11), 13, .mv (.t 5), none, []⟩, ⟨(some 12), 14, .call 7 [((.t 10), 0), ((.t 11), 0)], none, []⟩, ⟨(some 5), 7, .mv (.t 12), none, []⟩])
  (.seq (.seq (.ops [⟨(some 13), 15, .mv (.t 5), none, []⟩, ⟨(some 14), 16, .bin .lss (.t 13) (.c (.i .i64 0)), none, []⟩])
  (.cond (.t 14)
  (.seq (.ops [⟨(some 4), 6, .mv (.c (.b true)), none, []⟩])
  .ret)
  .skip))
  (.seq (.ops [⟨(some 15), 17, .load true 4 (.t 3), none, []⟩, ⟨(some 16), 18, .mv (.t 5), none, []⟩, ⟨(some 17), 19, .call 8 [((.t 15), 0), ((.t 16), 0)], none, []⟩, ⟨(some 5), 7, .mv (.t 17), none, []⟩])
  (.seq (.seq (.ops [⟨(some 18), 20, .mv (.t 5), none, []⟩, ⟨(some 19), 21, .bin .lss (.t 18) (.c (.i .i64 0)), none, []⟩])
  (.cond (.t 19)
  (.seq (.ops [⟨(some 4), 6, .mv (.c (.b true)), none, []⟩])
  .ret)
  .skip))
  (.seq (.draw [⟨(some 20), 22, .load true 3 (.t 2), none, []⟩, ⟨(some 21), 23, .call 10 [((.t 20), 0)], none, []⟩, ⟨(some 22), 24, .load true 4 (.t 3), none, [1]⟩, ⟨(some 23), 25, .call 11 [((.t 22), 0)], none, []⟩, ⟨(some 24), 26, .call 9 [((.t 21), 0), ((.t 23), 0)], none, []⟩, ⟨(some 6), 8, .mv (.t 24), none, []⟩])
  (.seq (.ops [⟨(some 25), 27, .load true 3 (.t 2), none, []⟩, ⟨(some 26), 28, .call 10 [((.t 25), 0)], none, []⟩, ⟨(some 7), 9, .box 3 (.c (.ag [(.sl true 2 []), (.sl true 2 []), (.sl true 2 [])])), none, []⟩, ⟨none, 1009003, .store 3 (.t 7) (.t 26), none, []⟩])
  (.seq (.ops [⟨(some 27), 29, .load true 4 (.t 3), none, []⟩, ⟨(some 28), 30, .call 11 [((.t 27), 0)], none, []⟩, ⟨(some 8), 10, .box 4 (.c (.ag [(.sl true 1 []), (.sl true 1 []), (.sl true 3 []), (.sl true 4 [])])), none, []⟩, ⟨none, 1010003, .store 4 (.t 8) (.t 28), none, []⟩])
  (.seq (.ops [⟨(some 29), 31, .load true 3 (.t 7), none, []⟩, ⟨(some 30), 32, .load true 4 (.t 8), none, []⟩, ⟨(some 31), 33, .call 12 [((.t 29), 0), ((.t 30), 0)], none, []⟩, ⟨(some 9), 11, .mv (.t 31), none, []⟩])
  (.seq (.seq (.ops [⟨(some 32), 34, .mv (.t 9), none, []⟩, ⟨(some 33), 35, .mv (.t 6), none, []⟩, ⟨(some 34), 36, .eqs true false [.b] (.t 32) (.t 33), none, []⟩])
  (.cond (.t 34)
  (.seq (.ops [⟨(some 4), 6, .mv (.c (.b false)), none, []⟩])
  .ret)
  .skip))
  (.seq (.seq (.draw [⟨(some 35), 37, .load true 3 (.t 7), none, []⟩, ⟨(some 36), 38, .load true 3 (.t 2), none, []⟩, ⟨(some 37), 39, .call 10 [((.t 36), 0)], none, [0]⟩, ⟨(some 38), 40, .call 13 [((.t 35), 0), ((.t 37), 0)], none, []⟩, ⟨(some 39), 41, .un .not (.t 38), none, []⟩])
  (.cond (.t 39)
  (.seq (.ops [⟨(some 4), 6, .mv (.c (.b false)), none, []⟩])
  .ret)
  .skip))
  (.seq (.seq (.draw [⟨(some 40), 42, .load true 4 (.t 8), none, []⟩, ⟨(some 41), 43, .load true 4 (.t 3), none, []⟩, ⟨(some 42), 44, .call 11 [((.t 41), 0)], none, [0]⟩, ⟨(some 43), 45, .call 14 [((.t 40), 0), ((.t 42), 0)], none, []⟩, ⟨(some 44), 46, .un .not (.t 43), none, []⟩])
  (.cond (.t 44)
  (.seq (.ops [⟨(some 4), 6, .mv (.c (.b false)), none, []⟩])
  .ret)
  .skip))
  (.seq (.ops [⟨(some 4), 6, .mv (.c (.b true)), none, []⟩])
  .ret))))))))))))))
theorem k3 : compCode Try.prog Try.f3.ntmps Try.f3.body.get! = some c3 := by kernel_rfl
theorem r3 : resTmps Try.prog Try.f3.results.toList = some [.tmp 4] := by kernel_rfl

theorem idxP_iff {α : Type} {p : α → Bool} {l : List α} {x : α} {j : Nat} (h : l[j]? = some x) (hp : p x = true) : idxP p l = j ↔ ∀ y ∈ l.take j, p y = false := by
  refine ⟨fun hi => ?_, fun hn => idxP_at h hp hn⟩
  unfold idxP at hi
  split at hi
  · rename_i i he
    have hij : i = j := by omega
    subst hij
    rw [List.findIdx?_eq_some_iff_getElem] at he
    obtain ⟨hlt, -, hk⟩ := he
    intro y hy
    obtain ⟨k, hk1, rfl⟩ := List.mem_iff_getElem.1 hy
    rw [List.length_take] at hk1
    have := hk k (by omega)
    simpa using this
  · omega
def isT (cols : List Int) (t : TableP) : Bool := decide (t.1 = cols)
def noT (cols : List Int) (ts : List TableP) : Prop := ∀ y ∈ ts, isT cols y = false
theorem noT_nil (cols : List Int) : noT cols [] := fun _ h => by cases h
theorem noT_snoc {cols : List Int} {ts : List TableP} {t : TableP} (h : noT cols ts) (ht : isT cols t = false) : noT cols (ts ++ [t]) := fun x hx => by
  rcases List.mem_append.1 hx with hx | hx
  · exact h x hx
  · rw [List.mem_singleton.1 hx]; exact ht
def tabIx (ts : List TableP) (cols : List Int) : Int := idxP (isT cols) ts
theorem w46 (w : WorldP) (cols : List Int) (h : okW w) (hc : cols.length ≤ 2^40) : Contract Try.prog false 46 [.ro, .ro] [.po false [.sl false 1 (w.1.map iT), .sl false 1 (w.2.1.map iT), .sl false 3 (w.2.2.1.map tbT), .sl false 4 (w.2.2.2.map vT)], .sl false 1 (cols.map iT)] [.i .i64 (tabIx w.2.2.1 cols)] [] := by
  refine mk_contract [] Try.func46 (c := Try.f46.body.get!) (by kernel_rfl) k46 r46 (of_decide_eq_true rfl) fun _ => ?_
  obtain ⟨h1, h2, ⟨h3, h4⟩, h5⟩ := h
  obtain ⟨g, f, ts, rs⟩ := w
  simp only at h1 h2 h3 h4 h5 ⊢
  unfold c46; simp
  refine twp_for ts.length (fun j s => s.t 0 = .po false [.sl false 1 (g.map iT), .sl false 1 (f.map iT), .sl false 3 (ts.map tbT), .sl false 4 (rs.map vT)] ∧ s.t 1 = .sl false 1 (cols.map iT) ∧ s.t 10 = .i .i64 ts.length ∧ s.t 11 = .i .i64 j ∧ noT cols (ts.take j) ∧ s.H = lk [(1, [])]) [] (by simp) ?_ ?_
  · simp [noT_nil]
  · rintro j s hj ⟨q0, q1, q10, q11, hn, qH⟩
    rw [nf_of qH]
    simp [q0, q1, q10, q11]
    refine ⟨fun hlt => ?_, fun hge => ?_⟩
    · have hw : IntKind.i64.wrap (j + 1) = j + 1 := wrap_id (by omega) (by omega)
      obtain ⟨t, ht⟩ := get_some hlt
      have hm := List.mem_of_getElem? ht
      have hsn := take_snoc ht
      simp [ht, hw, q0, q1, q10, q11]
      by_cases hq : t.1 = cols
      · refine callW_ms [.ro, .ro] ?_
        simp
        refine callX_of ((w90 t.1 cols (by have := (h4 t hm).1; omega) hc).t hq) (by simp) ?_
        simp [hw, q0, q1, q10, q11]
        exact (idxP_at ht (by simp [isT, hq]) hn).symm
      · refine callW_ms [.ro, .ro] ?_
        simp
        refine callX_of ((w90 t.1 cols (by have := (h4 t hm).1; omega) hc).f hq) (by simp) ?_
        simp [hw, q0, q1, q10, q11]
        rw [hsn]
        exact ⟨hlt, noT_snoc hn (by simp [isT, hq])⟩
    · obtain rfl : j = ts.length := by omega
      rw [List.take_of_length_le (Nat.le_refl _)] at hn
      exact (idxP_none hn).symm
def resP (r : DeclsP) (rs : List ValP) : Prop := ∀ (i : Nat) (v : ValP) (d : ByteArray × Int), rs[i]? = some v → r[i]? = some d → ofK d.2 v
def resUp (r : DeclsP) (rs : List ValP) (j : Nat) : Prop := ∀ (i : Nat) (v : ValP) (d : ByteArray × Int), i < j → rs[i]? = some v → r[i]? = some d → ofK d.2 v
theorem resUp_zero (r : DeclsP) (rs : List ValP) : resUp r rs 0 := fun i v d h => by omega
theorem resUp_succ {r : DeclsP} {rs : List ValP} {j : Nat} {v : ValP} {d : ByteArray × Int} (hv : rs[j]? = some v) (hd : r[j]? = some d) : resUp r rs (j + 1) ↔ resUp r rs j ∧ ofK d.2 v := by
  constructor
  · intro h; exact ⟨fun i v d hi => h i v d (by omega), h j v d (by omega) hv hd⟩
  · rintro ⟨h1, h2⟩ i v' d' hi hv' hd'
    by_cases hij : i = j
    · subst hij; rw [hv] at hv'; rw [hd] at hd'; cases hv'; cases hd'; exact h2
    · exact h1 i v' d' (by omega) hv' hd'
theorem resUp_all {r : DeclsP} {rs : List ValP} : resUp r rs rs.length ↔ resP r rs :=
  ⟨fun h i v d hv => h i v d (List.getElem?_eq_some_iff.1 hv).1 hv, fun h i v d _ => h i v d⟩
def WorldOkP (c r e : DeclsP) (w : WorldP) : Prop := (RegOkP c r e ∧ EntsOkP w.1 w.2.1 ∧ w.2.2.1.length ≤ 40 ∧ w.2.2.2.length = r.length) ∧ resP r w.2.2.2 ∧ (∀ t ∈ w.2.2.1, tabP c t) ∧ (w.2.2.1.map (·.1)).Nodup ∧ rowsP w.1 w.2.1 (flatR w.2.2.1)
noncomputable instance (c r e : DeclsP) (w : WorldP) : Decidable (WorldOkP c r e w) := Classical.propDecidable _
def tabsUp (c : DeclsP) (ts : List TableP) : Prop := (∀ t ∈ ts, tabP c t) ∧ (ts.map (·.1)).Nodup
theorem tabsUp_nil (c : DeclsP) : tabsUp c [] := ⟨by simp, by simp⟩
theorem tabsUp_snoc {c : DeclsP} {ts : List TableP} {t : TableP} : tabsUp c (ts ++ [t]) ↔ tabsUp c ts ∧ tabP c t ∧ noT t.1 ts := by
  unfold tabsUp noT isT
  constructor
  · rintro ⟨h1, h2⟩
    rw [List.map_append] at h2
    have h3 := List.nodup_append.1 h2
    refine ⟨⟨fun x hx => h1 x (by simp [hx]), h3.1⟩, h1 t (by simp), fun y hy => ?_⟩
    have := h3.2.2 y.1 (List.mem_map_of_mem hy) t.1 (by simp)
    simpa using this
  · rintro ⟨⟨h1, h2⟩, h3, h4⟩
    refine ⟨fun x hx => ?_, ?_⟩
    · rcases List.mem_append.1 hx with hx | hx
      · exact h1 x hx
      · rw [List.mem_singleton.1 hx]; exact h3
    · rw [List.map_append]
      refine List.nodup_append.2 ⟨h2, by simp, fun x hx y hy => ?_⟩
      obtain ⟨z, hz, rfl⟩ := List.mem_map.1 hx
      simp at hy; subst hy
      have := h4 z hz
      simpa using this
theorem tabsUp_take {c : DeclsP} {ts : List TableP} (h : tabsUp c ts) (j : Nat) : tabsUp c (ts.take j) :=
  ⟨fun t ht => h.1 t (List.mem_of_mem_take ht), by rw [List.map_take]; exact h.2.sublist (List.take_sublist _ _)⟩
set_option maxHeartbeats 1000000 in
set_option maxRecDepth 100000 in
theorem w12 (c r e : DeclsP) (w : WorldP) (h : okW w) (hc : c.length ≤ 2^40) (hr : r.length ≤ 2^40) (he : e.length ≤ 2^40) (hs : ∀ l ∈ [c, r, e], ∀ d ∈ l, d.1.size ≤ 2^40) : Contract Try.prog false 12 [.ro, .ro] [regR c r e, worldR w.1 w.2.1 w.2.2.1 w.2.2.2] [.b (decide (WorldOkP c r e w))] [] := by
  refine mk_contract [] Try.func12 (c := Try.f12.body.get!) (by kernel_rfl) k12 r12 (of_decide_eq_true rfl) fun _ => ?_
  have hR := fun hE => w48 w h hE
  have hT := fun cols hc => w46 w cols h hc
  obtain ⟨h1, h2, ⟨h3, h4⟩, h5⟩ := h
  obtain ⟨g, f, ts, rs⟩ := w
  simp only at h1 h2 h3 h4 h5 hR hT ⊢
  unfold c12; unfold regR; simp
  by_cases hreg : RegOkP c r e
  rotate_left
  · refine callW_ms [.ro] ?_
    simp [regR]
    refine callX_of ((w43 c r e hc hr he hs).f hreg) (by simp) ?_
    simp
    exact fun h => hreg h.1.1
  refine callW_ms [.ro] ?_
  simp [regR]
  refine callX_of ((w43 c r e hc hr he hs).t hreg) (by simp) ?_
  simp
  by_cases hent : EntsOkP g f
  rotate_left
  · refine callW_ms [.ro] ?_
    simp [entsR]
    refine callX_of ((w44 g f (by omega) (by omega)).f hent) (by simp) ?_
    simp
    exact fun h => hent h.1.2.1
  refine callW_ms [.ro] ?_
  simp [entsR]
  refine callX_of ((w44 g f (by omega) (by omega)).t hent) (by simp) ?_
  simp
  cases hb1 : decide ((40 : Int) < (ts.length : Int))
  rotate_left
  · have : (40 : Int) < ts.length := of_decide_eq_true hb1
    have hno : ¬ WorldOkP c r e (g, f, ts, rs) := fun h => by have := h.1.2.2.1; simp only at this; omega
    simp [hb1, hno]
  have hl1 : ts.length ≤ 40 := by have := of_decide_eq_false hb1; omega
  simp [hb1]
  refine ⟨fun hl2 => ?_, fun hl2 => ?_⟩
  rotate_left
  · have : ¬ rs.length = r.length := by omega
    exact fun h => this h.1.2.2.2
  have hl3 : rs.length = r.length := by omega
  have hnoT : ∀ j, ¬ tabsUp c (ts.take j) → ¬ WorldOkP c r e (g, f, ts, rs) := fun j h h2 => h (tabsUp_take ⟨h2.2.2.1, h2.2.2.2.1⟩ j)
  refine twp_for ts.length (fun j s => s.t 2 = .pt [(4, 0)] 0 0 ∧ s.t 3 = .pt [(5, 0)] 0 0 ∧ s.t 34 = .sl false 3 (ts.map tbT) ∧ s.t 35 = .i .i64 ts.length ∧ s.t 36 = .i .i64 j ∧ tabsUp c (ts.take j) ∧ s.H = lk [(1, []), (4, [.po true [.sl false 2 (c.map dT), .sl false 2 (r.map dT), .sl false 2 (e.map dT)]]), (5, [.po true [.sl false 1 (g.map iT), .sl false 1 (f.map iT), .sl false 3 (ts.map tbT), .sl false 4 (rs.map vT)]])]) [8] (by simp) ?_ ?_
  · simp [tabsUp_nil]
  · rintro j s hj ⟨q2, q3, q34, q35, q36, hU, qH⟩
    rw [nf_of qH]
    simp [q2, q3, q34, q35, q36]
    refine ⟨fun hlt => ?_, fun hge => ?_⟩
    · have hw : IntKind.i64.wrap (j + 1) = j + 1 := wrap_id (by omega) (by omega)
      obtain ⟨t, ht⟩ := get_some hlt
      have hm := List.mem_of_getElem? ht
      have hsn := take_snoc ht
      have htk := h4 t hm
      have hno := hnoT (j + 1)
      rw [hsn, tabsUp_snoc] at hno
      simp [ht, hw, q2, q3, q34, q35, q36]
      by_cases htp : tabP c t
      rotate_left
      · refine callW_ms [.ro, .ro] ?_
        simp
        refine callX_of ((w45 c r e t htk hc).f htp) (by simp) ?_
        simp [hw, q2, q3, q34, q35, q36]
        exact hno fun h => htp h.2.1
      refine callW_ms [.ro, .ro] ?_
      simp
      refine callX_of ((w45 c r e t htk hc).t htp) (by simp) ?_
      simp [hw, q2, q3, q34, q35, q36]
      refine callW_ms [.ro, .ro] ?_
      simp
      refine callX_of (hT t.1 (by have := htk.1; omega)) (by simp) ?_
      have hix := idxP_iff (p := isT t.1) ht (by simp [isT])
      have hiy : tabIx ts t.1 = j ↔ noT t.1 (ts.take j) := hix
      by_cases hi : tabIx ts t.1 = j
      · simp [hi, hw, q2, q3, q34, q35, q36]
        rw [hsn]
        exact ⟨hlt, tabsUp_snoc.2 ⟨hU, htp, hiy.1 hi⟩⟩
      · simp [hi, hw, q2, q3, q34, q35, q36]
        exact hno fun h => hi (hiy.2 h.2.2)
    · obtain rfl : j = ts.length := by omega
      rw [List.take_of_length_le (Nat.le_refl _)] at hU
      simp [q2, q3, q34, q35, q36]
      refine twp_for rs.length (fun j s => s.t 2 = .pt [(4, 0)] 0 0 ∧ s.t 3 = .pt [(5, 0)] 0 0 ∧ s.t 53 = .sl false 4 (rs.map vT) ∧ s.t 54 = .i .i64 rs.length ∧ s.t 55 = .i .i64 j ∧ resUp r rs j ∧ s.H = lk [(1, []), (4, [.po true [.sl false 2 (c.map dT), .sl false 2 (r.map dT), .sl false 2 (e.map dT)]]), (5, [.po true [.sl false 1 (g.map iT), .sl false 1 (f.map iT), .sl false 3 (ts.map tbT), .sl false 4 (rs.map vT)]])]) [10] (by simp) ?_ ?_
      · simp [q2, q3, resUp_zero]
      · rintro j s hj ⟨q2, q3, q53, q54, q55, hV, qH⟩
        rw [nf_of qH]
        simp [q2, q3, q53, q54, q55]
        refine ⟨fun hlt => ?_, fun hge => ?_⟩
        · have hw : IntKind.i64.wrap (j + 1) = j + 1 := wrap_id (by omega) (by omega)
          obtain ⟨v, hv⟩ := get_some hlt
          obtain ⟨d, hd⟩ := get_some (show j < r.length by omega)
          simp [hv, hd, hw, q2, q3, q53, q54, q55]
          by_cases hk : ofK d.2 v
          · refine callW_ms [.ro, .ro] ?_
            simp [valV]
            refine callX_of ((w47 v d.2).t hk) (by simp) ?_
            simp [hw, q2, q3, q53, q54, q55]
            exact ⟨hlt, (resUp_succ hv hd).2 ⟨hV, hk⟩⟩
          · refine callW_ms [.ro, .ro] ?_
            simp [valV]
            refine callX_of ((w47 v d.2).f hk) (by simp) ?_
            simp [hw, q2, q3, q53, q54, q55]
            exact fun h => hk (h.2.1 j v d hv hd)
        · obtain rfl : j = rs.length := by omega
          simp [q2, q3, q53, q54, q55]
          refine callW_ms [.ro] ?_
          simp
          refine callX_of (hR hent.2.1) (by simp [worldR]) ?_
          simp [q2, q3, q53, q54, q55]
          exact ⟨fun h => ⟨⟨hreg, hent, hl1, hl3⟩, resUp_all.1 hV, hU.1, hU.2, h⟩, fun h => h.2.2.2.2⟩
end Go.Proofs.YtehmdblkkpdmoaaT

/- Worlds: right or not, by the spec; the law. -/
namespace Go.Proofs.YtehmdblkkpdmoaaT
set_option linter.unusedVariables false
set_option linter.unusedSimpArgs false
open Go

theorem colsP_len {l : List Int} {n : Nat} (h : colsP l n) : l.length ≤ n :=
  len_le_of_nodup n l (fun x hx => by have := h.1 x hx; omega) (h.2.imp fun h => by omega)
theorem WorldOkP_stab {c r e : DeclsP} {w : WorldP} (h : WorldOkP c r e w) : ∀ t ∈ w.2.2.1, stabP c t := by
  intro t ht
  have hc := h.1.1.1.1
  have ht2 := h.2.2.1 t ht
  have hl := colsP_len ht2.1
  have hg := rowsG_len h.2.2.2.2.1
  have hG := h.1.2.1.2.2
  have hs : t.2.1.length ≤ (flatR w.2.2.1).length := by
    obtain ⟨j, hj⟩ := List.mem_iff_getElem?.1 ht
    obtain ⟨rest, hr⟩ := flatR_pre hj t.2.1.length
    rw [hr, List.take_of_length_le (Nat.le_refl _)]
    simp; omega
  exact ⟨⟨by omega, by omega⟩, ht2⟩
theorem countP_lt (f : List Int) (n : Nat) : f.countP (fun x => decide (x < ((n + 1 : Nat) : Int))) = f.countP (fun x => decide (x < (n : Int))) + f.count (n : Int) := by
  induction f with
  | nil => rfl
  | cons a l ih =>
    simp only [List.countP_cons, List.count_cons, ih, decide_eq_true_eq, beq_iff_eq]
    by_cases h1 : a < (n : Int)
    · rw [if_pos (show a < ((n + 1 : Nat) : Int) by omega), if_pos h1, if_neg (show ¬ a = (n : Int) by omega)]; omega
    · by_cases h3 : a = (n : Int)
      · rw [if_pos (show a < ((n + 1 : Nat) : Int) by omega), if_neg h1, if_pos h3]; omega
      · rw [if_neg (show ¬ a < ((n + 1 : Nat) : Int) by omega), if_neg h1, if_neg h3]; omega
theorem liveG_cnt (g : List Int) {f : List Int} (hf : f.Nodup) (n : Nat) (h0 : ∀ x ∈ f, 0 ≤ x) : (liveG g f n).length + f.countP (fun x => decide (x < (n : Int))) = n := by
  induction n with
  | zero =>
    have : f.countP (fun x => decide (x < ((0 : Nat) : Int))) = 0 := List.countP_eq_zero.2 fun x hx => by have := h0 x hx; simp; omega
    rw [this]; rfl
  | succ n ih =>
    rw [countP_lt, hf.count]
    simp only [liveG, List.length_append]
    split <;> simp <;> omega
theorem live_len {g f : List Int} (h : freeOk g.length f) : (liveG g f g.length).length + f.length = g.length := by
  have := liveG_cnt g h.2 g.length fun x hx => (h.1 x hx).1
  have h2 : f.countP (fun x => decide (x < (g.length : Int))) = f.length := List.countP_eq_length.2 fun x hx => by have := (h.1 x hx).2; simpa using this
  omega
theorem live_mem (g f : List Int) (n : Nat) (x : Int) : x ∈ atsR (liveG g f n) ↔ (0 ≤ x ∧ x < n) ∧ x ∉ f := by
  induction n with
  | zero => simp [liveG, atsR]; omega
  | succ n ih =>
    unfold atsR at ih ⊢
    simp only [liveG, List.map_append, List.mem_append, ih]
    by_cases h : (n : Int) ∈ f
    · simp only [if_pos h, List.map_nil, List.not_mem_nil, or_false]
      constructor
      · rintro ⟨h1, h2⟩; exact ⟨⟨h1.1, by omega⟩, h2⟩
      · rintro ⟨h1, h2⟩
        refine ⟨⟨h1.1, ?_⟩, h2⟩
        have : x ≠ n := by rintro rfl; exact h2 h
        omega
    · simp only [if_neg h, List.map_cons, List.map_nil, List.mem_singleton]
      constructor
      · rintro (⟨h1, h2⟩ | rfl)
        · exact ⟨⟨h1.1, by omega⟩, h2⟩
        · exact ⟨⟨by omega, by omega⟩, h⟩
      · rintro ⟨h1, h2⟩
        by_cases hx : x = n
        · exact .inr hx
        · exact .inl ⟨⟨h1.1, by omega⟩, h2⟩
/-- What is left: those of L that are not of B. -/
def leftL (n : Nat) (L B : List Int) : List Bool := (List.range n).map fun (i : Nat) => decide ((i : Int) ∈ L ∧ (i : Int) ∉ B)
@[simp] theorem leftL_len (n : Nat) (L B : List Int) : (leftL n L B).length = n := by simp [leftL]
theorem leftL_get {n : Nat} {L B : List Int} {x : Int} (h0 : 0 ≤ x) (h1 : x < n) : (leftL n L B)[x.toNat]? = some (decide (x ∈ L ∧ x ∉ B)) := by
  have h : x.toNat < n := by omega
  simp [leftL, h, Int.toNat_of_nonneg h0]
theorem leftL_nil (n : Nat) (L : List Int) : leftL n L [] = freeL n L := by simp [leftL, freeL]
theorem leftL_set {n : Nat} {L B : List Int} {x : Int} (h0 : 0 ≤ x) (h1 : x < n) : (leftL n L B).set x.toNat false = leftL n L (B ++ [x]) := by
  have h : x.toNat < n := by omega
  apply List.ext_getElem?
  intro i
  rw [List.getElem?_set]
  simp only [leftL, List.getElem?_map]
  by_cases hi : i < n
  · by_cases hx : x.toNat = i
    · subst hx; simp [h, Int.toNat_of_nonneg h0]
    · have : (i : Int) ≠ x := by omega
      simp [hx, hi, this]
  · have : ¬ x.toNat = i := by omega
    simp [hi, this]
theorem leftL_map {n : Nat} {L B : List Int} {x : Int} (h0 : 0 ≤ x) (h1 : x < n) : ((leftL n L B).map bT).set x.toNat [.b false] = (leftL n L (B ++ [x])).map bT := by
  rw [← leftL_set h0 h1]; simp
theorem freeL_map {n : Nat} {L : List Int} {x : Int} (h0 : 0 ≤ x) (h1 : x < n) : ((freeL n L).map bT).set x.toNat [.b true] = (freeL n (L ++ [x])).map bT := by
  rw [← freeL_set h0 h1]; simp
set_option maxHeartbeats 2000000 in
set_option maxRecDepth 100000 in
theorem w9 (c r e : DeclsP) (w : WorldP) (h : okW w) (hc : c.length ≤ 2^40) (hr : r.length ≤ 2^40) (he : e.length ≤ 2^40) (hf1 : ∀ t ∈ w.2.2.1, ∀ vs ∈ t.2.2, valsF vs) (hf2 : valsF w.2.2.2) : Contract Try.prog false 9 [.ro, .ro] [regR c r e, worldR w.1 w.2.1 w.2.2.1 w.2.2.2] [.b (decide (WorldOkP c r e w))] [] := by
  refine mk_contract [] Try.func9 (c := Try.f9.body.get!) (by kernel_rfl) k9 r9 (of_decide_eq_true rfl) fun _ => ?_
  have hST := WorldOkP_stab (c := c) (r := r) (e := e) (w := w)
  obtain ⟨h1, h2, ⟨h3, h4⟩, h5⟩ := h
  obtain ⟨g, f, ts, rs⟩ := w
  simp only at h1 h2 h3 h4 h5 hf1 hf2 hST ⊢
  unfold c9; unfold regR; simp
  by_cases hreg : RegOkP c r e
  rotate_left
  · refine callW_ms [.ro] ?_
    simp [regR]
    refine callX_of ((w33 c r e hc hr he).f hreg) (by simp) ?_
    simp
    exact fun h => hreg h.1.1
  refine callW_ms [.ro] ?_
  simp [regR]
  refine callX_of ((w33 c r e hc hr he).t hreg) (by simp) ?_
  simp
  by_cases hent : EntsOkP g f
  rotate_left
  · refine callW_ms [.ro] ?_
    simp [entsR]
    refine callX_of ((w34 g f (by omega) (by omega)).f hent) (by simp) ?_
    simp
    exact fun h => hent h.1.2.1
  refine callW_ms [.ro] ?_
  simp [entsR]
  refine callX_of ((w34 g f (by omega) (by omega)).t hent) (by simp) ?_
  simp
  cases hb1 : decide ((40 : Int) < (ts.length : Int))
  rotate_left
  · have : (40 : Int) < ts.length := of_decide_eq_true hb1
    have hno : ¬ WorldOkP c r e (g, f, ts, rs) := fun h => by have := h.1.2.2.1; simp only at this; omega
    simp [hb1, hno]
  have hl1 : ts.length ≤ 40 := by have := of_decide_eq_false hb1; omega
  simp [hb1]
  refine ⟨fun hl2 => ?_, fun hl2 => ?_⟩
  rotate_left
  · have : ¬ rs.length = r.length := by omega
    exact fun h => this h.1.2.2.2
  have hl3 : rs.length = r.length := by omega
  have hnoT : ∀ j, ¬ tabsUp c (ts.take j) → ¬ WorldOkP c r e (g, f, ts, rs) := fun j h h2 => h (tabsUp_take ⟨h2.2.2.1, h2.2.2.2.1⟩ j)
  refine twp_for rs.length (fun j s => s.t 2 = .pt [(4, 0)] 0 0 ∧ s.t 3 = .pt [(5, 0)] 0 0 ∧ s.t 5 = .i .i64 j ∧ resUp r rs j ∧ s.H = lk [(1, []), (4, [.po true [.sl false 2 (c.map dT), .sl false 2 (r.map dT), .sl false 2 (e.map dT)]]), (5, [.po true [.sl false 1 (g.map iT), .sl false 1 (f.map iT), .sl false 3 (ts.map tbT), .sl false 4 (rs.map vT)]])]) [] (by simp) ?_ ?_
  · simp [resUp_zero]
  · rintro j s hj ⟨q2, q3, q5, hV, qH⟩
    rw [nf_of qH]
    simp [q2, q3, q5]
    refine ⟨fun hlt => ?_, fun hge => ?_⟩
    · have hw : IntKind.i64.wrap (j + 1) = j + 1 := wrap_id (by omega) (by omega)
      obtain ⟨v, hv⟩ := get_some hlt
      obtain ⟨d, hd⟩ := get_some (show j < r.length by omega)
      have hvf := hf2 v (List.mem_of_getElem? hv)
      have hno : ¬ ofK d.2 v → ¬ WorldOkP c r e (g, f, ts, rs) := fun hk h => hk (h.2.1 j v d hv hd)
      simp [hv, hd, hw, q2, q3, q5]
      by_cases hok : ValOkP v
      rotate_left
      · refine callW_ms [.ro] ?_
        simp [valV]
        refine callX_of ((w35 v hvf).f hok) (by simp) ?_
        simp [hw, q2, q3, q5]
        exact hno fun h => hok h.2
      refine callW_ms [.ro] ?_
      simp [valV]
      refine callX_of ((w35 v hvf).t hok) (by simp) ?_
      simp [hv, hd, hw, q2, q3, q5]
      exact ⟨fun hk => ⟨hlt, (resUp_succ hv hd).2 ⟨hV, ⟨hk, hok⟩⟩⟩, fun hk => hno fun h => hk h.1⟩
    · obtain rfl : j = rs.length := by omega
      have hlen := live_len hent.2.1
      have hmem := live_mem g f g.length
      simp [q2, q3, q5]
      refine ⟨by omega, ?_⟩
      have hE := w28 g f (by omega) (by omega)
      rw [show entListF g f = liveG g f g.length from if_pos hent] at hE
      obtain ⟨L, hL⟩ : ∃ L, L = liveG g f g.length := ⟨_, rfl⟩
      rw [← hL] at hE hlen hmem
      have hgl := hent.2.2
      refine callW_ms [.ro] ?_
      simp
      refine callX_of hE (by simp [entsR]) ?_
      simp [q2, q3, q5]
      refine twp_for L.length (fun j s => s.t 2 = .pt [(4, 0)] 0 0 ∧ s.t 3 = .pt [(5, 0)] 0 0 ∧ s.t 6 = .rf [(74, 0)] 0 g.length ∧ s.t 7 = .rf [(77, 0)] 0 L.length ∧ s.t 8 = .i .i64 j ∧ s.H = lk [(1, []), (4, [.po true [.sl false 2 (c.map dT), .sl false 2 (r.map dT), .sl false 2 (e.map dT)]]), (5, [.po true [.sl false 1 (g.map iT), .sl false 1 (f.map iT), .sl false 3 (ts.map tbT), .sl false 4 (rs.map vT)]]), (74, [.sl true 1 ((freeL g.length (atsR (L.take j))).map bT)]), (77, [.sl true 2 (L.map eT)])]) [] (by simp) ?_ ?_
      · simp [q2, q3, atsR_nil]
      · rintro j s hj ⟨q2, q3, q6, q7, q8, qH⟩
        rw [nf_of qH]
        simp [q2, q3, q6, q7, q8]
        refine ⟨fun hlt => ?_, fun hge => ?_⟩
        · have hw : IntKind.i64.wrap (j + 1) = j + 1 := wrap_id (by omega) (by omega)
          obtain ⟨x, hx⟩ := get_some hlt
          have hsn := take_snoc hx
          have hxm := (hmem x.1).1 (List.mem_map_of_mem (f := (·.1)) (List.mem_of_getElem? hx))
          have hx0 := hxm.1.1
          have hset := freeL_map (n := g.length) (L := atsR (L.take j)) hx0 hxm.1.2
          rw [← atsR_snoc, ← hsn] at hset
          have hgf := freeL_get (n := g.length) (f := atsR (L.take j)) hx0 hxm.1.2
          simp [hx, hx0, hgf, hset, hw, q2, q3, q6, q7, q8]
          exact ⟨hlt, hxm.1.2, hlt⟩
        · obtain rfl : j = L.length := by omega
          rw [List.take_of_length_le (Nat.le_refl _), ← leftL_nil] at qH
          rw [nf_of qH]
          simp [q2, q3, q6, q7, q8]
          refine twp_for ts.length (fun j s => s.t 2 = .pt [(4, 0)] 0 0 ∧ s.t 3 = .pt [(5, 0)] 0 0 ∧ s.t 6 = .rf [(74, 0)] 0 g.length ∧ s.t 7 = .rf [(77, 0)] 0 L.length ∧ s.t 9 = .i .i64 (flatR (ts.take j)).length ∧ s.t 10 = .i .i64 j ∧ tabsUp c (ts.take j) ∧ rowsG g f (flatR (ts.take j)) ∧ s.H = lk [(1, []), (4, [.po true [.sl false 2 (c.map dT), .sl false 2 (r.map dT), .sl false 2 (e.map dT)]]), (5, [.po true [.sl false 1 (g.map iT), .sl false 1 (f.map iT), .sl false 3 (ts.map tbT), .sl false 4 (rs.map vT)]]), (74, [.sl true 1 ((leftL g.length (atsR L) (atsR (flatR (ts.take j)))).map bT)]), (77, [.sl true 2 (L.map eT)])]) [13, 16] (by simp) ?_ ?_
          · simp [q2, q3, q6, q7, flatR_nil, atsR_nil, tabsUp_nil, rowsG_nil, leftL_nil]
          · rintro j s hj ⟨q2, q3, q6, q7, q9, q10, hU, hG, qH⟩
            rw [nf_of qH]
            simp [q2, q3, q6, q7, q9, q10]
            refine ⟨fun hlt => ?_, fun hge => ?_⟩
            · have hw : IntKind.i64.wrap (j + 1) = j + 1 := wrap_id (by omega) (by omega)
              obtain ⟨t, ht⟩ := get_some hlt
              have hm := List.mem_of_getElem? ht
              have htk := h4 t hm
              have hsn := take_snoc ht
              have hno := hnoT (j + 1)
              rw [hsn, tabsUp_snoc] at hno
              simp [ht, hw, q2, q3, q6, q7, q9, q10]
              by_cases htp : stabP c t
              rotate_left
              · refine callW_ms [.ro, .ro] ?_
                simp [regR]
                refine callX_of ((w36 c r e t htk hc (hf1 t hm)).f htp) (by simp) ?_
                simp
                exact fun h => htp (hST h t hm)
              refine callW_ms [.ro, .ro] ?_
              simp [regR]
              refine callX_of ((w36 c r e t htk hc (hf1 t hm)).t htp) (by simp) ?_
              simp [hw, q2, q3, q6, q7, q9, q10]
              refine twp_for j (fun i s2 => s2.t 2 = .pt [(4, 0)] 0 0 ∧ s2.t 3 = .pt [(5, 0)] 0 0 ∧ s2.t 6 = .rf [(74, 0)] 0 g.length ∧ s2.t 7 = .rf [(77, 0)] 0 L.length ∧ s2.t 9 = .i .i64 (flatR (ts.take j)).length ∧ s2.t 10 = .i .i64 j ∧ s2.t 11 = .pt [(13, 0)] 0 0 ∧ s2.t 12 = .i .i64 i ∧ noT t.1 (ts.take i) ∧ s2.H = lk [(1, []), (4, [.po true [.sl false 2 (c.map dT), .sl false 2 (r.map dT), .sl false 2 (e.map dT)]]), (5, [.po true [.sl false 1 (g.map iT), .sl false 1 (f.map iT), .sl false 3 (ts.map tbT), .sl false 4 (rs.map vT)]]), (74, [.sl true 1 ((leftL g.length (atsR L) (atsR (flatR (ts.take j)))).map bT)]), (77, [.sl true 2 (L.map eT)]), (13, [.po true (tbT t)])]) [] (by simp) ?_ ?_
              · simp [q2, q3, q6, q7, q9, q10, noT_nil]
              · rintro i s2 hi ⟨p2, p3, p6, p7, p9, p10, p11, p12, hN, pH⟩
                rw [nf_of pH]
                simp [p2, p3, p6, p7, p9, p10, p11, p12]
                refine ⟨fun hlt2 => ?_, fun hge2 => ?_⟩
                · have hwi : IntKind.i64.wrap (i + 1) = i + 1 := wrap_id (by omega) (by omega)
                  obtain ⟨t2, ht2⟩ := get_some (show i < ts.length by omega)
                  have hm2 := List.mem_of_getElem? ht2
                  have hsn2 := take_snoc ht2
                  simp [ht2, hwi, p2, p3, p6, p7, p9, p10, p11, p12]
                  by_cases hq : t2.1 = t.1
                  · refine callW_ms [.ro, .ro] ?_
                    simp
                    refine callX_of ((w37 t2.1 t.1 (by have := (h4 t2 hm2).1; omega) (by have := htk.1; omega)).t hq) (by simp) ?_
                    simp
                    refine hno fun h => ?_
                    have := h.2.2 t2 (List.mem_iff_getElem?.2 ⟨i, by rw [List.getElem?_take]; simp [hlt2, ht2]⟩)
                    simp [isT, hq] at this
                  · refine callW_ms [.ro, .ro] ?_
                    simp
                    refine callX_of ((w37 t2.1 t.1 (by have := (h4 t2 hm2).1; omega) (by have := htk.1; omega)).f hq) (by simp) ?_
                    simp [hwi, p2, p3, p6, p7, p9, p10, p11, p12]
                    rw [hsn2]
                    exact ⟨hlt2, noT_snoc hN (by simp [isT, hq])⟩
                · obtain rfl : j = i := by omega
                  simp [p2, p3, p6, p7, p9, p10, p11, p12]
                  have hfs := flatR_snoc ht
                  obtain ⟨A, hA⟩ : ∃ A, A = flatR (ts.take j) := ⟨_, rfl⟩
                  rw [← hA] at hfs hG
                  have hpre : ∀ k, ∃ rest, flatR ts = (A ++ t.2.1.take k) ++ rest := fun k => by rw [hA]; exact flatR_pre ht k
                  have htl : t.2.1.length ≤ 2^36 := htk.2.1
                  have wg : IntKind.i64.wrap ((g.length : Int) - 1) = g.length - 1 := wrap_id (by omega) (by omega)
                  have hno3 : ∀ k e2, t.2.1[k]? = some e2 → ¬ rowsG g f ((A ++ t.2.1.take k) ++ [e2]) → ¬ WorldOkP c r e (g, f, ts, rs) := fun k e2 he2 h1 h2 => by
                    obtain ⟨rest, hr⟩ := hpre (k + 1)
                    rw [take_snoc he2, ← List.append_assoc] at hr
                    have h3 := h2.2.2.2.2.1
                    simp only at h3
                    rw [hr] at h3
                    exact h1 (rowsG_pre h3)
                  refine twp_for t.2.1.length (fun m s3 => s3.t 2 = .pt [(4, 0)] 0 0 ∧ s3.t 3 = .pt [(5, 0)] 0 0 ∧ s3.t 6 = .rf [(74, 0)] 0 g.length ∧ s3.t 7 = .rf [(77, 0)] 0 L.length ∧ s3.t 9 = .i .i64 (A ++ t.2.1.take m).length ∧ s3.t 10 = .i .i64 j ∧ s3.t 11 = .pt [(13, 0)] 0 0 ∧ s3.t 13 = .i .i64 m ∧ rowsG g f (A ++ t.2.1.take m) ∧ s3.H = lk [(1, []), (4, [.po true [.sl false 2 (c.map dT), .sl false 2 (r.map dT), .sl false 2 (e.map dT)]]), (5, [.po true [.sl false 1 (g.map iT), .sl false 1 (f.map iT), .sl false 3 (ts.map tbT), .sl false 4 (rs.map vT)]]), (74, [.sl true 1 ((leftL g.length (atsR L) (atsR (A ++ t.2.1.take m))).map bT)]), (77, [.sl true 2 (L.map eT)]), (13, [.po true (tbT t)])]) [16] (by simp) ?_ ?_
                  · simp [p2, p3, p6, p7, p9, p10, p11, ← hA, hG]
                  · rintro m s3 hm3 ⟨u2, u3, u6, u7, u9, u10, u11, u13, hG2, uH⟩
                    obtain ⟨B, hB⟩ : ∃ B, B = A ++ t.2.1.take m := ⟨_, rfl⟩
                    have hlen2 := rowsG_len hG2
                    rw [← hB] at hG2 hlen2 u9 uH
                    rw [nf_of uH]
                    simp [u2, u3, u6, u7, u9, u10, u11, u13]
                    refine ⟨fun hlt3 => ?_, fun hge3 => ?_⟩
                    · have hwm : IntKind.i64.wrap (m + 1) = m + 1 := wrap_id (by omega) (by omega)
                      obtain ⟨x, hx⟩ := get_some hlt3
                      have hsn3 := take_snoc hx
                      have hno2 := hno3 m x hx
                      rw [← hB] at hno2
                      rw [rowsG_snoc] at hno2
                      have hBs : A ++ t.2.1.take (m + 1) = B ++ [x] := by rw [hsn3, hB, List.append_assoc]
                      have wB : IntKind.i64.wrap ((B.length : Int) + 1) = B.length + 1 := wrap_id (by omega) (by omega)
                      simp [hx, u2, u3, u6, u7, u9, u10, u11, u13, wg]
                      by_cases hr : 0 ≤ x.1 ∧ x.1 ≤ (g.length : Int) - 1
                      rotate_left
                      · refine callW_ms [.ro, .ro, .ro] ?_
                        simp
                        refine callX_of ((w38 _ _ _).f hr) (by simp) ?_
                        simp [u2, u3, u6, u7, u9, u10, u11, u13]
                        exact hno2 fun h => hr h.2.1.1
                      have hgB := leftL_get (n := g.length) (L := atsR L) (B := atsR B) (x := x.1) hr.1 (by omega)
                      obtain ⟨y, hy⟩ : ∃ y, g[x.1.toNat]? = some y := get_some (by omega)
                      have hr0 := hr.1
                      by_cases hlf : x.1 ∈ atsR L ∧ x.1 ∉ atsR B
                      rotate_left
                      · rw [decide_eq_false hlf] at hgB
                        refine callW_ms [.ro, .ro, .ro] ?_
                        simp
                        refine callX_of ((w38 _ _ _).t hr) (by simp) ?_
                        simp [hgB, hr0, u2, u3, u6, u7, u9, u10, u11, u13]
                        refine ⟨by omega, hno2 fun h => hlf ⟨(hmem x.1).2 ⟨⟨hr.1, by omega⟩, h.2.1.2.2⟩, h.2.2⟩⟩
                      rw [decide_eq_true hlf] at hgB
                      have hxf := ((hmem x.1).1 hlf.1).2
                      have hset := leftL_map (n := g.length) (L := atsR L) (B := atsR B) (x := x.1) hr.1 (by omega)
                      rw [← atsR_snoc] at hset
                      refine callW_ms [.ro, .ro, .ro] ?_
                      simp
                      refine callX_of ((w38 _ _ _).t hr) (by simp) ?_
                      simp [hgB, hy, hr0, hset, wB, hwm, hBs, u2, u3, u6, u7, u9, u10, u11, u13]
                      have hBl : B.length = A.length + m := by rw [hB]; simp; omega
                      refine ⟨by omega, fun hyv => ⟨by omega, hlt3, by omega, rowsG_snoc.2 ⟨hG2, ⟨hr, by rw [hy, hyv], hxf⟩, hlf.2⟩⟩, fun hyv => hno2 fun h => hyv ?_⟩
                      have := h.2.1.2.1
                      rw [hy] at this
                      exact Option.some.inj this
                    · obtain rfl : m = t.2.1.length := by omega
                      rw [List.take_of_length_le (Nat.le_refl _)] at hB
                      rw [hfs, ← hB, hsn]
                      exact ⟨hlt, rfl, hw, tabsUp_snoc.2 ⟨hU, htp.2, hN⟩, hG2, rfl⟩
            · obtain rfl : j = ts.length := by omega
              rw [List.take_of_length_le (Nat.le_refl _)] at hG hU ⊢
              constructor
              · intro h
                exact ⟨⟨hreg, hent, hl1, hl3⟩, resUp_all.1 hV, hU.1, hU.2, hG, by simp only; omega⟩
              · intro h
                have := h.2.2.2.2.2
                simp only at this
                omega
def fW (w : WorldP) : Prop := (∀ t ∈ w.2.2.1, ∀ vs ∈ t.2.2, valsF vs) ∧ valsF w.2.2.2
set_option maxRecDepth 100000 in
theorem w3 (c r e : DeclsP) (w : WorldP) (hc : bndD c) (hr : bndD r) (he : bndD e) (hb : bdW w) (hf : fW w) : Contract Try.prog false 3 [.ro, .ro] [regR c r e, worldR w.1 w.2.1 w.2.2.1 w.2.2.2] [.b true] [] := by
  refine mk_contract [] Try.func3 (c := Try.f3.body.get!) (by kernel_rfl) k3 r3 (of_decide_eq_true rfl) fun _ => ?_
  obtain ⟨hf1, hf2⟩ := hf
  unfold c3; unfold regR; simp
  refine callW_ms [.ro, .ro] ?_
  simp [regR]
  refine callX_of (w7 c r e _ hc hr he (by omega) (by omega)) (by simp) ?_
  simp
  intro h
  obtain ⟨g0, g1, hok⟩ := szRegF_ok (k := 2^20) (by omega) (by omega) (by omega : ¬ szRegF c r e 1048576 < 0)
  obtain ⟨hc2, hr2, he2⟩ := id hok
  have hall := okD_all ⟨okD_mono hok.1 (by omega : 2^20 ≤ 2^40), okD_mono hok.2.1 (by omega), okD_mono hok.2.2 (by omega)⟩
  have := hc2.1
  have := hr2.1
  have := he2.1
  generalize szRegF c r e 1048576 = m at *
  refine callW_ms [.ro, .ro] ?_
  simp
  refine callX_of (w8 w m hb (by omega) (by omega)) (by simp) ?_
  simp
  intro h2
  obtain ⟨hw2, -⟩ := szW_ok (w := w) (n := m) (by omega) (by omega) (by omega : ¬ szWF w m < 0)
  refine callW_ms [.ro] ?_
  simp [regR]
  refine callX_of (w10 c r e (by omega) (by omega) (by omega)) (by simp) ?_
  simp [regO]
  refine callW_ms [.ro] ?_
  simp
  refine callX_of (w11 w hw2) (by simp) ?_
  simp
  refine callW_ms [.ro, .ro] ?_
  simp [regR]
  refine callX_of (w9 c r e w hw2 (by omega) (by omega) (by omega) hf1 hf2) (by simp) ?_
  simp
  refine callW_ms [.ro] ?_
  simp [regR]
  refine callX_of (w10 c r e (by omega) (by omega) (by omega)) (by simp) ?_
  simp [regO]
  refine callW_ms [.ro] ?_
  simp
  refine callX_of (w11 w hw2) (by simp) ?_
  simp
  refine callW_ms [.ro, .ro] ?_
  simp [regR]
  refine callX_of (w12 c r e w hw2 (by omega) (by omega) (by omega) hall) (by simp) ?_
  simp
  refine callW_ms [.ro] ?_
  simp [regR]
  refine callX_of (w10 c r e (by omega) (by omega) (by omega)) (by simp) ?_
  simp [regO]
  refine callW_ms [.ro, .ro] ?_
  simp [regR]
  refine callX_of (w13 c r e c r e (by omega) (by omega) (by omega) (by omega) (by omega) (by omega)) (by simp) ?_
  simp
  refine callW_ms [.ro] ?_
  simp
  refine callX_of (w11 w hw2) (by simp) ?_
  simp
  refine callW_ms [.ro, .ro] ?_
  simp
  refine callX_of (w14 w hw2) (by simp) ?_
  simp
end Go.Proofs.YtehmdblkkpdmoaaT

/- States: right or not. -/
namespace Go.Proofs.YtehmdblkkpdmoaaT
set_option linter.unusedVariables false
set_option linter.unusedSimpArgs false
open Go

/- laws.szStreamS -/
def c59 : TCode := (.seq (.ops [⟨(some 4), 6, .mv (.c (.i .i64 0)), none, []⟩])
  (.seq (.ops [⟨(some 6), 8, .mv (.t 1), none, []⟩, ⟨(some 7), 9, .mv (.t 0), none, []⟩, ⟨(some 8), 10, .len false (.t 7), none, []⟩, ⟨(some 9), 11, .bin .sub (.t 6) (.t 8), none, []⟩, ⟨(some 1), 3, .mv (.t 9), none, []⟩])
  (.seq (.seq (.ops [⟨(some 10), 12, .mv (.t 1), none, []⟩, ⟨(some 11), 13, .bin .lss (.t 10) (.c (.i .i64 0)), none, []⟩])
  (.cond (.t 11)
  (.seq (.ops [⟨(some 4), 6, .mv (.c (.i .i64 (-1))), none, []⟩])
  .ret)
  .skip))
  (.seq (.seq (.ops [⟨(some 5), 7, .mv (.c (.i .i64 0)), none, []⟩])
  (.block 0 (.loop (.seq (.seq (.ops [⟨(some 12), 14, .mv (.t 5), none, []⟩, ⟨(some 13), 15, .mv (.t 0), none, []⟩, ⟨(some 14), 16, .len false (.t 13), none, []⟩, ⟨(some 15), 17, .bin .lss (.t 12) (.t 14), none, []⟩])
  (.cond (.t 15)
  .skip
  (.exit 0)))
  (.seq (.block 1 (.seq (.ops [⟨(some 18), 20, .mv (.t 0), none, []⟩, ⟨(some 19), 21, .mv (.t 5), none, []⟩, ⟨(some 20), 22, .iaddr 3 (.t 18) (.t 19), none, []⟩, ⟨(some 21), 23, .load true 3 (.t 20), none, []⟩, ⟨(some 22), 24, .mv (.t 1), none, []⟩, ⟨(some 23), 25, .call 96 [((.t 21), 0), ((.t 22), 0)], none, []⟩, ⟨(some 1), 3, .mv (.t 23), none, []⟩])
  (.seq (.ops [⟨(some 24), 26, .mv (.t 1), none, []⟩, ⟨(some 25), 27, .bin .lss (.t 24) (.c (.i .i64 0)), none, []⟩])
  (.cond (.t 25)
  (.seq (.ops [⟨(some 4), 6, .mv (.c (.i .i64 (-1))), none, []⟩])
  .ret)
  .skip))))
  (.ops [⟨(some 16), 18, .mv (.t 5), none, []⟩, ⟨(some 17), 19, .bin .add (.t 16) (.c (.i .i64 1)), none, []⟩, ⟨(some 5), 7, .mv (.t 17), none, []⟩]))))))
  (.seq (.ops [⟨(some 26), 28, .mv (.t 1), none, []⟩, ⟨(some 4), 6, .mv (.t 26), none, []⟩])
  .ret)))))
theorem k59 : compCode Try.prog Try.f59.ntmps Try.f59.body.get! = some c59 := by kernel_rfl
theorem r59 : resTmps Try.prog Try.f59.results.toList = some [.tmp 4] := by kernel_rfl
/- laws.szState -/
def c19 : TCode := (.seq (.ops [⟨(some 2), 4, .box 6 (.t 0), none, []⟩, ⟨(some 4), 6, .mv (.c (.i .i64 0)), none, []⟩])
  (.seq (.ops [⟨(some 5), 7, .faddr 0 4 (.t 2), none, []⟩, ⟨(some 6), 8, .load true 4 (.t 5), none, []⟩, ⟨(some 7), 9, .mv (.t 1), none, []⟩, ⟨(some 8), 10, .call 8 [((.t 6), 0), ((.t 7), 0)], none, []⟩, ⟨(some 1), 3, .mv (.t 8), none, []⟩])
  (.seq (.seq (.ops [⟨(some 9), 11, .mv (.t 1), none, []⟩, ⟨(some 10), 12, .bin .lss (.t 9) (.c (.i .i64 0)), none, []⟩])
  (.cond (.t 10)
  (.seq (.ops [⟨(some 4), 6, .mv (.c (.i .i64 (-1))), none, []⟩])
  .ret)
  .skip))
  (.seq (.ops [⟨(some 11), 13, .faddr 4 1 (.t 2), none, []⟩, ⟨(some 12), 14, .load false 1 (.t 11), none, []⟩, ⟨(some 13), 15, .mv (.t 1), none, []⟩, ⟨(some 14), 16, .call 59 [((.t 12), 0), ((.t 13), 0)], none, []⟩, ⟨(some 1), 3, .mv (.t 14), none, []⟩])
  (.seq (.seq (.ops [⟨(some 15), 17, .mv (.t 1), none, []⟩, ⟨(some 16), 18, .bin .lss (.t 15) (.c (.i .i64 0)), none, []⟩])
  (.cond (.t 16)
  (.seq (.ops [⟨(some 4), 6, .mv (.c (.i .i64 (-1))), none, []⟩])
  .ret)
  .skip))
  (.seq (.ops [⟨(some 17), 19, .faddr 5 1 (.t 2), none, []⟩, ⟨(some 18), 20, .load false 1 (.t 17), none, []⟩, ⟨(some 19), 21, .mv (.t 1), none, []⟩, ⟨(some 20), 22, .call 60 [((.t 18), 0), ((.t 19), 0)], none, []⟩, ⟨(some 1), 3, .mv (.t 20), none, []⟩])
  (.seq (.seq (.ops [⟨(some 21), 23, .mv (.t 1), none, []⟩, ⟨(some 22), 24, .bin .lss (.t 21) (.c (.i .i64 0)), none, []⟩])
  (.cond (.t 22)
  (.seq (.ops [⟨(some 4), 6, .mv (.c (.i .i64 (-1))), none, []⟩])
  .ret)
  .skip))
  (.seq (.ops [⟨(some 23), 25, .mv (.t 1), none, []⟩, ⟨(some 4), 6, .mv (.t 23), none, []⟩])
  .ret))))))))
theorem k19 : compCode Try.prog Try.f19.ntmps Try.f19.body.get! = some c19 := by kernel_rfl
theorem r19 : resTmps Try.prog Try.f19.results.toList = some [.tmp 4] := by kernel_rfl
/- laws.toStreamS -/
def c62 : TCode := (.seq (.ops [⟨(some 2), 4, .mv (.c (.sl true 3 [])), none, []⟩])
  (.seq (.ops [⟨(some 5), 7, .mv (.t 0), none, []⟩, ⟨(some 6), 8, .len false (.t 5), none, []⟩, ⟨(some 7), 9, .mkslice 3 56 [(.i .i64 0), (.sl true 4 []), (.sl true 4 [])] (.t 6) (.t 6), none, []⟩, ⟨(some 3), 5, .mv (.t 7), none, []⟩])
  (.seq (.seq (.ops [⟨(some 4), 6, .mv (.c (.i .i64 0)), none, []⟩])
  (.block 0 (.loop (.seq (.seq (.ops [⟨(some 8), 10, .mv (.t 4), none, []⟩, ⟨(some 9), 11, .mv (.t 0), none, []⟩, ⟨(some 10), 12, .len false (.t 9), none, []⟩, ⟨(some 11), 13, .bin .lss (.t 8) (.t 10), none, []⟩])
  (.cond (.t 11)
  .skip
  (.exit 0)))
  (.seq (.block 1 (.ops [⟨(some 14), 16, .mv (.t 3), none, []⟩, ⟨(some 15), 17, .mv (.t 4), none, []⟩, ⟨(some 16), 18, .mv (.t 0), none, []⟩, ⟨(some 17), 19, .mv (.t 4), none, []⟩, ⟨(some 18), 20, .iaddr 3 (.t 16) (.t 17), none, []⟩, ⟨(some 19), 21, .load true 3 (.t 18), none, []⟩, ⟨(some 20), 22, .call 98 [((.t 19), 0)], none, []⟩, ⟨(some 21), 23, .iaddr 3 (.t 14) (.t 15), none, []⟩, ⟨none, 1005008, .store 3 (.t 21) (.t 20), none, []⟩]))
  (.ops [⟨(some 12), 14, .mv (.t 4), none, []⟩, ⟨(some 13), 15, .bin .add (.t 12) (.c (.i .i64 1)), none, []⟩, ⟨(some 4), 6, .mv (.t 13), none, []⟩]))))))
  (.seq (.ops [⟨(some 22), 24, .mv (.t 3), none, []⟩, ⟨(some 2), 4, .mv (.t 22), none, []⟩])
  .ret))))
theorem k62 : compCode Try.prog Try.f62.ntmps Try.f62.body.get! = some c62 := by kernel_rfl
theorem r62 : resTmps Try.prog Try.f62.results.toList = some [.tmp 2] := by kernel_rfl
/- laws.toState -/
def c21 : TCode := (.seq (.ops [⟨(some 1), 3, .box 6 (.t 0), none, []⟩, ⟨(some 2), 4, .box 6 (.c (.ag [(.sl true 1 []), (.sl true 1 []), (.sl true 3 []), (.sl true 4 []), (.sl true 3 []), (.sl true 1 [])])), none, []⟩])
  (.seq (.ops [⟨(some 3), 5, .box 6 (.c (.ag [(.sl true 1 []), (.sl true 1 []), (.sl true 3 []), (.sl true 4 []), (.sl true 3 []), (.sl true 1 [])])), none, []⟩])
  (.seq (.ops [⟨(some 4), 6, .faddr 0 4 (.t 1), none, []⟩, ⟨(some 5), 7, .load true 4 (.t 4), none, []⟩, ⟨(some 6), 8, .call 11 [((.t 5), 0)], none, []⟩, ⟨(some 7), 9, .faddr 0 4 (.t 3), none, []⟩, ⟨none, 1002004, .store 4 (.t 7) (.t 6), none, []⟩])
  (.seq (.ops [⟨(some 8), 10, .faddr 4 1 (.t 1), none, []⟩, ⟨(some 9), 11, .load false 1 (.t 8), none, []⟩, ⟨(some 10), 12, .call 62 [((.t 9), 0)], none, []⟩, ⟨(some 11), 13, .faddr 4 1 (.t 3), none, []⟩, ⟨none, 1003004, .store 1 (.t 11) (.t 10), none, []⟩])
  (.seq (.ops [⟨(some 12), 14, .faddr 5 1 (.t 1), none, []⟩, ⟨(some 13), 15, .load false 1 (.t 12), none, []⟩, ⟨(some 14), 16, .call 63 [((.t 13), 0)], none, []⟩, ⟨(some 15), 17, .faddr 5 1 (.t 3), none, []⟩, ⟨none, 1004004, .store 1 (.t 15) (.t 14), none, []⟩])
  (.seq (.ops [⟨(some 16), 18, .load true 6 (.t 3), none, []⟩, ⟨none, 1005001, .store 6 (.t 2) (.t 16), none, []⟩])
  .ret))))))
theorem k21 : compCode Try.prog Try.f21.ntmps Try.f21.body.get! = some c21 := by kernel_rfl
theorem r21 : resTmps Try.prog Try.f21.results.toList = some [.cell 2 true 6] := by kernel_rfl
/- laws.eqStreamS -/
def c65 : TCode := (.seq (.ops [⟨(some 4), 6, .mv (.c (.b false)), none, []⟩])
  (.seq (.seq (.ops [⟨(some 6), 8, .mv (.t 0), none, []⟩, ⟨(some 7), 9, .len false (.t 6), none, []⟩, ⟨(some 8), 10, .mv (.t 1), none, []⟩, ⟨(some 9), 11, .len false (.t 8), none, []⟩, ⟨(some 10), 12, .bin .neq (.t 7) (.t 9), none, []⟩])
  (.cond (.t 10)
  (.seq (.ops [⟨(some 4), 6, .mv (.c (.b false)), none, []⟩])
  .ret)
  .skip))
  (.seq (.seq (.ops [⟨(some 5), 7, .mv (.c (.i .i64 0)), none, []⟩])
  (.block 0 (.loop (.seq (.seq (.ops [⟨(some 11), 13, .mv (.t 5), none, []⟩, ⟨(some 12), 14, .mv (.t 0), none, []⟩, ⟨(some 13), 15, .len false (.t 12), none, []⟩, ⟨(some 14), 16, .bin .lss (.t 11) (.t 13), none, []⟩])
  (.cond (.t 14)
  .skip
  (.exit 0)))
  (.seq (.block 1 (.seq (.draw [⟨(some 17), 19, .mv (.t 0), none, []⟩, ⟨(some 18), 20, .mv (.t 5), none, []⟩, ⟨(some 19), 21, .iaddr 3 (.t 17) (.t 18), none, []⟩, ⟨(some 20), 22, .load true 3 (.t 19), none, []⟩, ⟨(some 21), 23, .mv (.t 1), none, []⟩, ⟨(some 22), 24, .mv (.t 5), none, []⟩, ⟨(some 23), 25, .iaddr 3 (.t 21) (.t 22), none, []⟩, ⟨(some 24), 26, .load true 3 (.t 23), none, []⟩, ⟨(some 25), 27, .call 100 [((.t 20), 0), ((.t 24), 0)], none, []⟩, ⟨(some 26), 28, .un .not (.t 25), none, []⟩])
  (.cond (.t 26)
  (.seq (.ops [⟨(some 4), 6, .mv (.c (.b false)), none, []⟩])
  .ret)
  .skip)))
  (.ops [⟨(some 15), 17, .mv (.t 5), none, []⟩, ⟨(some 16), 18, .bin .add (.t 15) (.c (.i .i64 1)), none, []⟩, ⟨(some 5), 7, .mv (.t 16), none, []⟩]))))))
  (.seq (.ops [⟨(some 4), 6, .mv (.c (.b true)), none, []⟩])
  .ret))))
theorem k65 : compCode Try.prog Try.f65.ntmps Try.f65.body.get! = some c65 := by kernel_rfl
theorem r65 : resTmps Try.prog Try.f65.results.toList = some [.tmp 4] := by kernel_rfl
/- laws.eqState -/
def c23 : TCode := (.seq (.ops [⟨(some 2), 4, .box 6 (.t 0), none, []⟩, ⟨(some 3), 5, .box 6 (.t 1), none, []⟩, ⟨(some 4), 6, .mv (.c (.b false)), none, []⟩])
  (.seq (.seq (.ops [⟨(some 5), 7, .faddr 0 4 (.t 2), none, []⟩, ⟨(some 6), 8, .load true 4 (.t 5), none, []⟩, ⟨(some 7), 9, .faddr 0 4 (.t 3), none, []⟩, ⟨(some 8), 10, .load true 4 (.t 7), none, []⟩, ⟨(some 9), 11, .call 14 [((.t 6), 0), ((.t 8), 0)], none, []⟩, ⟨(some 10), 12, .un .not (.t 9), none, []⟩])
  (.cond (.t 10)
  (.seq (.ops [⟨(some 4), 6, .mv (.c (.b false)), none, []⟩])
  .ret)
  .skip))
  (.seq (.seq (.ops [⟨(some 11), 13, .faddr 4 1 (.t 2), none, []⟩, ⟨(some 12), 14, .load false 1 (.t 11), none, []⟩, ⟨(some 13), 15, .faddr 4 1 (.t 3), none, []⟩, ⟨(some 14), 16, .load false 1 (.t 13), none, []⟩, ⟨(some 15), 17, .call 65 [((.t 12), 0), ((.t 14), 0)], none, []⟩, ⟨(some 16), 18, .un .not (.t 15), none, []⟩])
  (.cond (.t 16)
  (.seq (.ops [⟨(some 4), 6, .mv (.c (.b false)), none, []⟩])
  .ret)
  .skip))
  (.seq (.seq (.ops [⟨(some 17), 19, .faddr 5 1 (.t 2), none, []⟩, ⟨(some 18), 20, .load false 1 (.t 17), none, []⟩, ⟨(some 19), 21, .faddr 5 1 (.t 3), none, []⟩, ⟨(some 20), 22, .load false 1 (.t 19), none, []⟩, ⟨(some 21), 23, .call 66 [((.t 18), 0), ((.t 20), 0)], none, []⟩, ⟨(some 22), 24, .un .not (.t 21), none, []⟩])
  (.cond (.t 22)
  (.seq (.ops [⟨(some 4), 6, .mv (.c (.b false)), none, []⟩])
  .ret)
  .skip))
  (.seq (.ops [⟨(some 4), 6, .mv (.c (.b true)), none, []⟩])
  .ret)))))
theorem k23 : compCode Try.prog Try.f23.ntmps Try.f23.body.get! = some c23 := by kernel_rfl
theorem r23 : resTmps Try.prog Try.f23.results.toList = some [.tmp 4] := by kernel_rfl
/- spec.StateOk -/
def c20 : TCode := (.seq (.ops [⟨(some 2), 4, .box 3 (.t 0), none, []⟩, ⟨(some 3), 5, .box 6 (.t 1), none, []⟩, ⟨(some 4), 6, .mv (.c (.b false)), none, []⟩])
  (.seq (.seq (.ops [⟨(some 6), 8, .load true 3 (.t 2), none, []⟩, ⟨(some 7), 9, .faddr 0 4 (.t 3), none, []⟩, ⟨(some 8), 10, .load true 4 (.t 7), none, []⟩, ⟨(some 9), 11, .call 9 [((.t 6), 0), ((.t 8), 0)], none, []⟩, ⟨(some 10), 12, .un .not (.t 9), none, []⟩, ⟨(some 11), 13, .mv (.t 10), none, []⟩, ⟨(some 12), 14, .faddr 4 1 (.t 3), (some (11, false)), []⟩, ⟨(some 13), 15, .load false 1 (.t 12), (some (11, false)), []⟩, ⟨(some 14), 16, .len false (.t 13), (some (11, false)), []⟩, ⟨(some 15), 17, .faddr 2 1 (.t 2), (some (11, false)), []⟩, ⟨(some 16), 18, .load false 1 (.t 15), (some (11, false)), []⟩, ⟨(some 17), 19, .len false (.t 16), (some (11, false)), []⟩, ⟨(some 18), 20, .bin .neq (.t 14) (.t 17), (some (11, false)), []⟩, ⟨(some 19), 21, .pick (.t 11) (.c (.b true)) (.t 18), none, []⟩, ⟨(some 20), 22, .mv (.t 19), none, []⟩, ⟨(some 21), 23, .faddr 5 1 (.t 3), (some (20, false)), []⟩, ⟨(some 22), 24, .load false 1 (.t 21), (some (20, false)), []⟩, ⟨(some 23), 25, .len false (.t 22), (some (20, false)), []⟩, ⟨(some 24), 26, .faddr 2 1 (.t 2), (some (20, false)), []⟩, ⟨(some 25), 27, .load false 1 (.t 24), (some (20, false)), []⟩, ⟨(some 26), 28, .len false (.t 25), (some (20, false)), []⟩, ⟨(some 27), 29, .bin .neq (.t 23) (.t 26), (some (20, false)), []⟩, ⟨(some 28), 30, .pick (.t 20) (.c (.b true)) (.t 27), none, []⟩])
  (.cond (.t 28)
  (.seq (.ops [⟨(some 4), 6, .mv (.c (.b false)), none, []⟩])
  .ret)
  .skip))
  (.seq (.seq (.ops [⟨(some 5), 7, .mv (.c (.i .i64 0)), none, []⟩])
  (.block 0 (.loop (.seq (.seq (.ops [⟨(some 29), 31, .mv (.t 5), none, []⟩, ⟨(some 30), 32, .faddr 4 1 (.t 3), none, []⟩, ⟨(some 31), 33, .load false 1 (.t 30), none, []⟩, ⟨(some 32), 34, .len false (.t 31), none, []⟩, ⟨(some 33), 35, .bin .lss (.t 29) (.t 32), none, []⟩])
  (.cond (.t 33)
  .skip
  (.exit 0)))
  (.seq (.block 1 (.seq (.draw [⟨(some 36), 38, .faddr 2 1 (.t 2), none, []⟩, ⟨(some 37), 39, .load false 1 (.t 36), none, []⟩, ⟨(some 38), 40, .mv (.t 5), none, []⟩, ⟨(some 39), 41, .iaddr 2 (.t 37) (.t 38), none, []⟩, ⟨(some 40), 42, .faddr 1 1 (.t 39), none, []⟩, ⟨(some 41), 43, .load false 1 (.t 40), none, []⟩, ⟨(some 42), 44, .faddr 4 1 (.t 3), none, []⟩, ⟨(some 43), 45, .load false 1 (.t 42), none, []⟩, ⟨(some 44), 46, .mv (.t 5), none, []⟩, ⟨(some 45), 47, .iaddr 3 (.t 43) (.t 44), none, []⟩, ⟨(some 46), 48, .load true 3 (.t 45), none, []⟩, ⟨(some 47), 49, .call 61 [((.t 41), 0), ((.t 46), 0)], none, []⟩, ⟨(some 48), 50, .un .not (.t 47), none, []⟩])
  (.cond (.t 48)
  (.seq (.ops [⟨(some 4), 6, .mv (.c (.b false)), none, []⟩])
  .ret)
  .skip)))
  (.ops [⟨(some 34), 36, .mv (.t 5), none, []⟩, ⟨(some 35), 37, .bin .add (.t 34) (.c (.i .i64 1)), none, []⟩, ⟨(some 5), 7, .mv (.t 35), none, []⟩]))))))
  (.seq (.ops [⟨(some 4), 6, .mv (.c (.b true)), none, []⟩])
  .ret))))
theorem k20 : compCode Try.prog Try.f20.ntmps Try.f20.body.get! = some c20 := by kernel_rfl
theorem r20 : resTmps Try.prog Try.f20.results.toList = some [.tmp 4] := by kernel_rfl
/- impl.StateOk -/
def c22 : TCode := (.seq (.ops [⟨(some 2), 4, .box 3 (.t 0), none, []⟩, ⟨(some 3), 5, .box 6 (.t 1), none, []⟩, ⟨(some 4), 6, .mv (.c (.b false)), none, []⟩])
  (.seq (.seq (.ops [⟨(some 7), 9, .load true 3 (.t 2), none, []⟩, ⟨(some 8), 10, .faddr 0 4 (.t 3), none, []⟩, ⟨(some 9), 11, .load true 4 (.t 8), none, []⟩, ⟨(some 10), 12, .call 12 [((.t 7), 0), ((.t 9), 0)], none, []⟩, ⟨(some 11), 13, .un .not (.t 10), none, []⟩, ⟨(some 12), 14, .mv (.t 11), none, []⟩, ⟨(some 13), 15, .faddr 4 1 (.t 3), (some (12, false)), []⟩, ⟨(some 14), 16, .load false 1 (.t 13), (some (12, false)), []⟩, ⟨(some 15), 17, .len false (.t 14), (some (12, false)), []⟩, ⟨(some 16), 18, .faddr 2 1 (.t 2), (some (12, false)), []⟩, ⟨(some 17), 19, .load false 1 (.t 16), (some (12, false)), []⟩, ⟨(some 18), 20, .len false (.t 17), (some (12, false)), []⟩, ⟨(some 19), 21, .bin .neq (.t 15) (.t 18), (some (12, false)), []⟩, ⟨(some 20), 22, .pick (.t 12) (.c (.b true)) (.t 19), none, []⟩, ⟨(some 21), 23, .mv (.t 20), none, []⟩, ⟨(some 22), 24, .faddr 5 1 (.t 3), (some (21, false)), []⟩, ⟨(some 23), 25, .load false 1 (.t 22), (some (21, false)), []⟩, ⟨(some 24), 26, .len false (.t 23), (some (21, false)), []⟩, ⟨(some 25), 27, .faddr 2 1 (.t 2), (some (21, false)), []⟩, ⟨(some 26), 28, .load false 1 (.t 25), (some (21, false)), []⟩, ⟨(some 27), 29, .len false (.t 26), (some (21, false)), []⟩, ⟨(some 28), 30, .bin .neq (.t 24) (.t 27), (some (21, false)), []⟩, ⟨(some 29), 31, .pick (.t 21) (.c (.b true)) (.t 28), none, []⟩])
  (.cond (.t 29)
  (.seq (.ops [⟨(some 4), 6, .mv (.c (.b false)), none, []⟩])
  .ret)
  .skip))
  (.seq (.seq (.ops [⟨(some 30), 32, .faddr 4 1 (.t 3), none, []⟩, ⟨(some 31), 33, .load false 1 (.t 30), none, []⟩, ⟨(some 32), 34, .len false (.t 31), none, []⟩, ⟨(some 33), 35, .mv (.c (.i .i64 0)), none, []⟩])
  (.block 0 (.loop (.seq (.ops [⟨(some 34), 36, .bin .lss (.t 33) (.t 32), none, []⟩])
  (.seq (.cond (.t 34)
  .skip
  (.exit 0))
  (.seq (.block 1 (.seq (.ops [⟨(some 35), 37, .mv (.t 33), none, []⟩, ⟨(some 36), 38, .iaddr 3 (.t 31) (.t 33), none, []⟩, ⟨(some 37), 39, .load true 3 (.t 36), none, []⟩, ⟨(some 6), 8, .box 3 (.c (.ag [(.i .i64 0), (.sl true 4 []), (.sl true 4 [])])), none, []⟩, ⟨(some 5), 7, .mv (.t 35), none, []⟩, ⟨none, 1005005, .store 3 (.t 6) (.t 37), none, []⟩])
  (.seq (.draw [⟨(some 38), 40, .faddr 2 1 (.t 2), none, []⟩, ⟨(some 39), 41, .load false 1 (.t 38), none, []⟩, ⟨(some 40), 42, .mv (.t 5), none, []⟩, ⟨(some 41), 43, .iaddr 2 (.t 39) (.t 40), none, []⟩, ⟨(some 42), 44, .faddr 1 1 (.t 41), none, []⟩, ⟨(some 43), 45, .load false 1 (.t 42), none, []⟩, ⟨(some 44), 46, .load true 3 (.t 6), none, []⟩, ⟨(some 45), 47, .call 64 [((.t 43), 0), ((.t 44), 0)], none, []⟩, ⟨(some 46), 48, .un .not (.t 45), none, []⟩])
  (.cond (.t 46)
  (.seq (.ops [⟨(some 4), 6, .mv (.c (.b false)), none, []⟩])
  .ret)
  .skip))))
  (.ops [⟨(some 47), 49, .bin .add (.t 33) (.c (.i .i64 1)), none, []⟩, ⟨(some 33), 35, .mv (.t 47), none, []⟩])))))))
  (.seq (.ops [⟨(some 4), 6, .mv (.c (.b true)), none, []⟩])
  .ret))))
theorem k22 : compCode Try.prog Try.f22.ntmps Try.f22.body.get! = some c22 := by kernel_rfl
theorem r22 : resTmps Try.prog Try.f22.results.toList = some [.tmp 4] := by kernel_rfl
/- laws.FnExactStateOk -/
def c5 : TCode := (.seq (.ops [⟨(some 2), 4, .box 3 (.t 0), none, []⟩, ⟨(some 3), 5, .box 6 (.t 1), none, []⟩, ⟨(some 4), 6, .mv (.c (.b false)), none, []⟩])
  (.seq (.ops [⟨(some 5), 7, .mv (.c (.i .i64 1048576)), none, []⟩])
  (.seq (.ops [⟨(some 10), 12, .load true 3 (.t 2), none, []⟩, ⟨(some 11), 13, .mv (.t 5), none, []⟩, ⟨(some 12), 14, .call 7 [((.t 10), 0), ((.t 11), 0)], none, []⟩, ⟨(some 5), 7, .mv (.t 12), none, []⟩])
  (.seq (.seq (.ops [⟨(some 13), 15, .mv (.t 5), none, []⟩, ⟨(some 14), 16, .bin .lss (.t 13) (.c (.i .i64 0)), none, []⟩])
  (.cond (.t 14)
  (.seq (.ops [⟨(some 4), 6, .mv (.c (.b true)), none, []⟩])
  .ret)
  .skip))
  (.seq (.ops [⟨(some 15), 17, .load true 6 (.t 3), none, []⟩, ⟨(some 16), 18, .mv (.t 5), none, []⟩, ⟨(some 17), 19, .call 19 [((.t 15), 0), ((.t 16), 0)], none, []⟩, ⟨(some 5), 7, .mv (.t 17), none, []⟩])
  (.seq (.seq (.ops [⟨(some 18), 20, .mv (.t 5), none, []⟩, ⟨(some 19), 21, .bin .lss (.t 18) (.c (.i .i64 0)), none, []⟩])
  (.cond (.t 19)
  (.seq (.ops [⟨(some 4), 6, .mv (.c (.b true)), none, []⟩])
  .ret)
  .skip))
  (.seq (.draw [⟨(some 20), 22, .load true 3 (.t 2), none, []⟩, ⟨(some 21), 23, .call 10 [((.t 20), 0)], none, []⟩, ⟨(some 22), 24, .load true 6 (.t 3), none, [1]⟩, ⟨(some 23), 25, .call 21 [((.t 22), 0)], none, []⟩, ⟨(some 24), 26, .call 20 [((.t 21), 0), ((.t 23), 0)], none, []⟩, ⟨(some 6), 8, .mv (.t 24), none, []⟩])
  (.seq (.ops [⟨(some 25), 27, .load true 3 (.t 2), none, []⟩, ⟨(some 26), 28, .call 10 [((.t 25), 0)], none, []⟩, ⟨(some 7), 9, .box 3 (.c (.ag [(.sl true 2 []), (.sl true 2 []), (.sl true 2 [])])), none, []⟩, ⟨none, 1009003, .store 3 (.t 7) (.t 26), none, []⟩])
  (.seq (.ops [⟨(some 27), 29, .load true 6 (.t 3), none, []⟩, ⟨(some 28), 30, .call 21 [((.t 27), 0)], none, []⟩, ⟨(some 8), 10, .box 6 (.c (.ag [(.sl true 1 []), (.sl true 1 []), (.sl true 3 []), (.sl true 4 []), (.sl true 3 []), (.sl true 1 [])])), none, []⟩, ⟨none, 1010003, .store 6 (.t 8) (.t 28), none, []⟩])
  (.seq (.ops [⟨(some 29), 31, .load true 3 (.t 7), none, []⟩, ⟨(some 30), 32, .load true 6 (.t 8), none, []⟩, ⟨(some 31), 33, .call 22 [((.t 29), 0), ((.t 30), 0)], none, []⟩, ⟨(some 9), 11, .mv (.t 31), none, []⟩])
  (.seq (.seq (.ops [⟨(some 32), 34, .mv (.t 9), none, []⟩, ⟨(some 33), 35, .mv (.t 6), none, []⟩, ⟨(some 34), 36, .eqs true false [.b] (.t 32) (.t 33), none, []⟩])
  (.cond (.t 34)
  (.seq (.ops [⟨(some 4), 6, .mv (.c (.b false)), none, []⟩])
  .ret)
  .skip))
  (.seq (.seq (.draw [⟨(some 35), 37, .load true 3 (.t 7), none, []⟩, ⟨(some 36), 38, .load true 3 (.t 2), none, []⟩, ⟨(some 37), 39, .call 10 [((.t 36), 0)], none, [0]⟩, ⟨(some 38), 40, .call 13 [((.t 35), 0), ((.t 37), 0)], none, []⟩, ⟨(some 39), 41, .un .not (.t 38), none, []⟩])
  (.cond (.t 39)
  (.seq (.ops [⟨(some 4), 6, .mv (.c (.b false)), none, []⟩])
  .ret)
  .skip))
  (.seq (.seq (.draw [⟨(some 40), 42, .load true 6 (.t 8), none, []⟩, ⟨(some 41), 43, .load true 6 (.t 3), none, []⟩, ⟨(some 42), 44, .call 21 [((.t 41), 0)], none, [0]⟩, ⟨(some 43), 45, .call 23 [((.t 40), 0), ((.t 42), 0)], none, []⟩, ⟨(some 44), 46, .un .not (.t 43), none, []⟩])
  (.cond (.t 44)
  (.seq (.ops [⟨(some 4), 6, .mv (.c (.b false)), none, []⟩])
  .ret)
  .skip))
  (.seq (.ops [⟨(some 4), 6, .mv (.c (.b true)), none, []⟩])
  .ret))))))))))))))
theorem k5 : compCode Try.prog Try.f5.ntmps Try.f5.body.get! = some c5 := by kernel_rfl
theorem r5 : resTmps Try.prog Try.f5.results.toList = some [.tmp 4] := by kernel_rfl

@[simp] def stT (s : StrP) : List TV := [.i .i64 s.1, .sl false 4 (s.2.1.map vT), .sl false 4 (s.2.2.map vT)]
@[simp] def stO (s : StrP) : List TV := [.i .i64 s.1, .sl true 4 (s.2.1.map vT), .sl true 4 (s.2.2.map vT)]
@[simp] theorem fzL_stT (s : StrP) : fzL (stT s) = stT s := by simp
@[simp] theorem fzL_stO (s : StrP) : fzL (stO s) = stT s := by simp
@[simp] theorem fzLL_stT (l : List StrP) : fzLL (l.map stT) = l.map stT := fzLL_map fzL_stT l
@[simp] theorem fzLL_stO (l : List StrP) : fzLL (l.map stO) = l.map stT := fzLL_mapR fzL_stO l
@[simp] theorem noROLL_stO (l : List StrP) : noROLL (l.map stO) = true := noROLL_map (fun _ => by simp [noROL, noRO]) l
@[simp] theorem noref_stT (l : List StrP) : (l.map stT).all (·.all noref) = true := noref_map (fun _ => by simp) l
@[simp] theorem srcT_stT (H : Hp) (z : Nat) (l : List StrP) : srcT H (.sl false z (l.map stT)) = some (z, l.map stT, H, []) := by simp only [srcT, noref_stT, if_true]
def cS (s : StrP) : Nat := s.2.1.length + s.2.2.length
theorem szSt_C : SzC szStrF cS := szTwo_C (f := fun (s : StrP) n => szF n s.2.1.length) (g := fun (s : StrP) n => szF n s.2.2.length) (szF_C _) (szF_C _)
def bdS (s : StrP) : Prop := strB 9223372036854775807 s
theorem w59 (l : List StrP) (n : Int) (hl : l.length < 2^63) (hd : ∀ t ∈ l, bdS t) (hn : n < 2^62) (hn0 : 0 ≤ n) : Contract Try.prog false 59 [.ro, .ro] [.sl false 3 (l.map stT), .i .i64 n] [.i .i64 (szS szStrF l n)] [] := by
  refine mk_contract [] Try.func59 (c := Try.f59.body.get!) (by kernel_rfl) k59 r59 (of_decide_eq_true rfl) fun _ => ?_
  have hw : IntKind.i64.wrap (n - l.length) = n - l.length := wrap_id (by omega) (by omega)
  unfold c59; simp [hw]
  refine ⟨fun h => ?_, fun h => ?_⟩
  · simp [szS, szF, h]
  have e : szF n l.length = n - l.length := by unfold szF; rw [if_neg (by omega)]
  have e2 : szS szStrF l n = szA szStrF l (n - l.length) := by unfold szS; rw [e, if_neg (by omega)]
  rw [e2]
  refine twp_for l.length (fun j s => s.t 0 = .sl false 3 (l.map stT) ∧ s.t 1 = .i .i64 (szA szStrF (l.take j) (n - l.length)) ∧ s.t 5 = .i .i64 j ∧ 0 ≤ szA szStrF (l.take j) (n - l.length) ∧ s.H = lk [(1, [])]) [] (by simp) ?_ ?_
  · simp; omega
  · rintro j s hj ⟨q0, q1, q5, h0, qH⟩
    rw [nf_of qH]
    simp [q0, q1, q5]
    refine ⟨fun hlt => ?_, fun hge => ?_⟩
    · have hw : IntKind.i64.wrap (j + 1) = j + 1 := wrap_id (by omega) (by omega)
      obtain ⟨x, hx⟩ := get_some hlt
      have hle := (szA_ok szSt_C.le (l.take j) _ h0 (by omega)).1
      have hs : szA szStrF (l.take (j + 1)) (n - l.length) = szStrF x (szA szStrF (l.take j) (n - l.length)) := by
        rw [take_snoc hx, szA_snoc, if_neg (by omega)]
      have hng := szSt_C.neg x (szA szStrF (l.take j) (n - l.length))
      have hng2 := szA_take szStrF l (n - l.length) (j + 1)
      rw [hs] at hng2
      generalize szA szStrF (l.take j) (n - l.length) = m at *
      simp [hx, hw, q0, q1, q5]
      refine callW_ms [.ro, .ro] ?_
      simp [strR]
      refine callX_of (w96 x m (hd x (List.mem_of_getElem? hx)) (by omega) h0) (by simp) ?_
      simp [hw, q0, q1, q5]
      generalize szStrF x m = m' at *
      refine ⟨fun h1 => (hng2 (hng h1)).symm, fun h1 => ⟨hlt, by rw [hs], by rw [hs]; omega⟩⟩
    · obtain rfl : j = l.length := by omega
      simp [q0, q1, q5]
theorem w62 (l : List StrP) (hl : l.length ≤ 2^36) (hd : ∀ t ∈ l, strB (2^36) t) : Contract Try.prog false 62 [.ro] [.sl false 3 (l.map stT)] [.sl true 3 (l.map stO)] [] := by
  refine mk_contract [] Try.func62 (c := Try.f62.body.get!) (by kernel_rfl) k62 r62 (of_decide_eq_true rfl) fun _ => ?_
  unfold c62; simp
  refine ⟨by omega, ?_⟩
  refine twp_for l.length (fun j s => s.t 0 = .sl false 3 (l.map stT) ∧ s.t 3 = .rf [(9, 0)] 0 l.length ∧ s.t 4 = .i .i64 j ∧ s.H = lk [(1, []), (9, [.sl true 3 ((l.map stO).take j ++ List.replicate (l.length - j) [.i .i64 0, .sl true 4 [], .sl true 4 []])])]) [22] (by simp) ?_ ?_
  · simp
  · rintro j s hj ⟨q0, q3, q4, qH⟩
    rw [nf_of qH]
    simp [q0, q3, q4]
    refine ⟨fun hlt => ?_, fun hge => ?_⟩
    · have hw : IntKind.i64.wrap (j + 1) = j + 1 := wrap_id (by omega) (by omega)
      obtain ⟨x, hx⟩ := get_some hlt
      have hmin : min j l.length = j := by omega
      have hb : strB (2^40) x := by have := hd x (List.mem_of_getElem? hx); unfold strB at this ⊢; omega
      simp [hx, hw, q0, q3, q4]
      refine callW_ms [.ro] ?_
      simp [strR]
      refine callX_of (w98 x hb) (by simp) ?_
      simp [strO, hw, q0, q3, q4, rep_at hlt, mapsnoc hx, hmin]
      omega
    · obtain rfl : j = l.length := by omega
      simp [q0, q3, q4]
theorem w65 (l : List StrP) (hl : l.length ≤ 2^36) (hd : ∀ t ∈ l, strB (2^36) t) : Contract Try.prog false 65 [.ro, .ro] [.sl false 3 (l.map stT), .sl false 3 (l.map stT)] [.b true] [] := by
  refine mk_contract [] Try.func65 (c := Try.f65.body.get!) (by kernel_rfl) k65 r65 (of_decide_eq_true rfl) fun _ => ?_
  unfold c65; simp
  refine twp_for l.length (fun j s => s.t 0 = .sl false 3 (l.map stT) ∧ s.t 1 = .sl false 3 (l.map stT) ∧ s.t 5 = .i .i64 j ∧ s.H = lk [(1, [])]) [] (by simp) ?_ ?_
  · simp
  · rintro j s hj ⟨q0, q1, q5, qH⟩
    rw [nf_of qH]
    simp [q0, q1, q5]
    intro hlt
    have hw : IntKind.i64.wrap (j + 1) = j + 1 := wrap_id (by omega) (by omega)
    obtain ⟨x, hx⟩ := get_some hlt
    have hb : strB (2^40) x := by have := hd x (List.mem_of_getElem? hx); unfold strB at this ⊢; omega
    simp [hx, hw, q0, q1, q5]
    refine callW_ms [.ro, .ro] ?_
    simp [strR]
    refine callX_of (w100 x hb) (by simp) ?_
    simp [hw, q0, q1, q5]
    exact hlt
abbrev stateR (w : WorldP) (ss : List StrP) (cs : List Int) : TV := .ag [.sl false 1 (w.1.map iT), .sl false 1 (w.2.1.map iT), .sl false 3 (w.2.2.1.map tbT), .sl false 4 (w.2.2.2.map vT), .sl false 3 (ss.map stT), .sl false 1 (cs.map iT)]
abbrev stateO (w : WorldP) (ss : List StrP) (cs : List Int) : TV := .ag [.sl true 1 (w.1.map iT), .sl true 1 (w.2.1.map iT), .sl true 3 (w.2.2.1.map tbO), .sl true 4 (w.2.2.2.map vT), .sl true 3 (ss.map stO), .sl true 1 (cs.map iT)]
theorem w19 (w : WorldP) (ss : List StrP) (cs : List Int) (n : Int) (hb : bdW w) (h2 : ss.length < 2^63) (h3 : ∀ t ∈ ss, bdS t) (h4 : cs.length < 2^63) (hn : n < 2^62) (hn0 : 0 ≤ n) : Contract Try.prog false 19 [.ro, .ro] [stateR w ss cs, .i .i64 n] [.i .i64 (if szWF w n < 0 then -1 else if szS szStrF ss (szWF w n) < 0 then -1 else szF (szS szStrF ss (szWF w n)) cs.length)] [] := by
  refine mk_contract [] Try.func19 (c := Try.f19.body.get!) (by kernel_rfl) k19 r19 (of_decide_eq_true rfl) fun _ => ?_
  have hA := szW_C.le w n hn0
  have hA2 := szW_C.neg w n
  unfold c19; simp
  refine callW_ms [.ro, .ro] ?_
  simp
  refine callX_of (w8 w n hb hn hn0) (by simp) ?_
  simp
  generalize szWF w n = a at *
  refine ⟨fun h => by intros; omega, fun h => ?_⟩
  have hB := (szS_C szSt_C).le ss a h
  have hB2 := (szS_C szSt_C).neg ss a
  refine callW_ms [.ro, .ro] ?_
  simp
  refine callX_of (w59 ss a h2 h3 (by omega) h) (by simp) ?_
  simp
  generalize szS szStrF ss a = b at *
  refine ⟨fun h5 => by intros; omega, fun h5 => ?_⟩
  have hC := szF_neg b cs.length
  refine callW_ms [.ro, .ro] ?_
  simp
  refine callX_of (w60 cs b h4 (by omega) h5) (by simp) ?_
  simp
  exact ⟨fun h6 _ _ => (hC h6).symm, fun h6 => by rw [if_neg (by omega), if_neg (by omega)]⟩
theorem w21 (w : WorldP) (ss : List StrP) (cs : List Int) (h : okW w) (h2 : ss.length ≤ 2^36) (h3 : ∀ t ∈ ss, strB (2^36) t) (h4 : cs.length ≤ 2^36) : Contract Try.prog false 21 [.ro] [stateR w ss cs] [stateO w ss cs] [] := by
  refine mk_contract [] Try.func21 (c := Try.f21.body.get!) (by kernel_rfl) k21 r21 (of_decide_eq_true rfl) fun _ => ?_
  unfold c21; simp
  refine callW_ms [.ro] ?_
  simp
  refine callX_of (w11 w h) (by simp) ?_
  simp
  refine callW_ms [.ro] ?_
  simp
  refine callX_of (w62 ss h2 h3) (by simp) ?_
  simp
  refine callW_ms [.ro] ?_
  simp
  refine callX_of (w63 cs (by omega)) (by simp) ?_
  simp
theorem w23 (w : WorldP) (ss : List StrP) (cs : List Int) (h : okW w) (h2 : ss.length ≤ 2^36) (h3 : ∀ t ∈ ss, strB (2^36) t) (h4 : cs.length ≤ 2^36) : Contract Try.prog false 23 [.ro, .ro] [stateR w ss cs, stateR w ss cs] [.b true] [] := by
  refine mk_contract [] Try.func23 (c := Try.f23.body.get!) (by kernel_rfl) k23 r23 (of_decide_eq_true rfl) fun _ => ?_
  unfold c23; simp
  refine callW_ms [.ro, .ro] ?_
  simp
  refine callX_of (w14 w h) (by simp) ?_
  simp
  refine callW_ms [.ro, .ro] ?_
  simp
  refine callX_of (w65 ss h2 h3) (by simp) ?_
  simp
  refine callW_ms [.ro, .ro] ?_
  simp
  refine callX_of (w66 cs cs (by omega) (by omega)) (by simp) ?_
  simp
def strsUp (e : DeclsP) (ss : List StrP) (j : Nat) : Prop := ∀ (i : Nat) (s : StrP) (d : ByteArray × Int), i < j → ss[i]? = some s → e[i]? = some d → StrOkP d.2 s
theorem strsUp_zero (e : DeclsP) (ss : List StrP) : strsUp e ss 0 := fun i v d h => by omega
theorem strsUp_succ {r : DeclsP} {rs : List StrP} {j : Nat} {v : StrP} {d : ByteArray × Int} (hv : rs[j]? = some v) (hd : r[j]? = some d) : strsUp r rs (j + 1) ↔ strsUp r rs j ∧ StrOkP d.2 v := by
  constructor
  · intro h; exact ⟨fun i v d hi => h i v d (by omega), h j v d (by omega) hv hd⟩
  · rintro ⟨h1, h2⟩ i v' d' hi hv' hd'
    by_cases hij : i = j
    · subst hij; rw [hv] at hv'; rw [hd] at hd'; cases hv'; cases hd'; exact h2
    · exact h1 i v' d' (by omega) hv' hd'
def StateOkP (c r e : DeclsP) (w : WorldP) (ss : List StrP) (cs : List Int) : Prop := (WorldOkP c r e w ∧ ss.length = e.length ∧ cs.length = e.length) ∧ strsUp e ss ss.length
noncomputable instance (c r e : DeclsP) (w : WorldP) (ss : List StrP) (cs : List Int) : Decidable (StateOkP c r e w ss cs) := Classical.propDecidable _
set_option maxRecDepth 100000 in
theorem w20 (c r e : DeclsP) (w : WorldP) (ss : List StrP) (cs : List Int) (h : okW w) (h2 : ss.length ≤ 2^36) (h3 : ∀ t ∈ ss, strB (2^36) t) (h4 : cs.length ≤ 2^36) (hc : c.length ≤ 2^40) (hr : r.length ≤ 2^40) (he : e.length ≤ 2^40) (hf : fW w) (hg : ∀ t ∈ ss, valsF t.2.1 ∧ valsF t.2.2) : Contract Try.prog false 20 [.ro, .ro] [regR c r e, stateR w ss cs] [.b (decide (StateOkP c r e w ss cs))] [] := by
  refine mk_contract [] Try.func20 (c := Try.f20.body.get!) (by kernel_rfl) k20 r20 (of_decide_eq_true rfl) fun _ => ?_
  have hOk := w9 c r e w h hc hr he hf.1 hf.2
  unfold c20; unfold regR; simp
  by_cases hw : WorldOkP c r e w
  rotate_left
  · refine callW_ms [.ro, .ro] ?_
    simp
    refine callX_of (hOk.f hw) (by simp [regR]) ?_
    simp
    exact fun h => hw h.1.1
  refine callW_ms [.ro, .ro] ?_
  simp
  refine callX_of (hOk.t hw) (by simp [regR]) ?_
  by_cases hl1 : ss.length = e.length
  rotate_left
  · have hl3 : ¬ ((ss.length : Int) = e.length) := by omega
    have hno : ¬ StateOkP c r e w ss cs := fun h => hl1 h.1.2.1
    simp [hl3, hno]
  simp [hl1]
  refine ⟨fun hl2 => ?_, fun hl2 => ?_⟩
  rotate_left
  · exact fun h => hl2 (by rw [h.1.2.2])
  refine twp_for ss.length (fun j s => s.t 2 = .pt [(4, 0)] 0 0 ∧ s.t 3 = .pt [(5, 0)] 0 0 ∧ s.t 5 = .i .i64 j ∧ strsUp e ss j ∧ s.H = lk [(1, []), (4, [.po true [.sl false 2 (c.map dT), .sl false 2 (r.map dT), .sl false 2 (e.map dT)]]), (5, [.po true [.sl false 1 (w.1.map iT), .sl false 1 (w.2.1.map iT), .sl false 3 (w.2.2.1.map tbT), .sl false 4 (w.2.2.2.map vT), .sl false 3 (ss.map stT), .sl false 1 (cs.map iT)]])]) [] (by simp) ?_ ?_
  · simp [strsUp_zero]
  · rintro j s hj ⟨q2, q3, q5, hV, qH⟩
    rw [nf_of qH]
    simp [q2, q3, q5]
    refine ⟨fun hlt => ?_, fun hge => ?_⟩
    · have hw : IntKind.i64.wrap (j + 1) = j + 1 := wrap_id (by omega) (by omega)
      obtain ⟨s1, hs⟩ := get_some hlt
      obtain ⟨d, hd⟩ := get_some (show j < e.length by omega)
      have hm := List.mem_of_getElem? hs
      have hb : strB (2^40) s1 := by have := h3 s1 hm; unfold strB at this ⊢; omega
      simp [hs, hd, hw, q2, q3, q5]
      by_cases hk : StrOkP d.2 s1
      · refine callW_ms [.ro, .ro] ?_
        simp [strR]
        refine callX_of ((w61 d.2 s1 hb (hg s1 hm).1 (hg s1 hm).2).t hk) (by simp) ?_
        simp [hw, q2, q3, q5]
        exact ⟨hlt, (strsUp_succ hs hd).2 ⟨hV, hk⟩⟩
      · refine callW_ms [.ro, .ro] ?_
        simp [strR]
        refine callX_of ((w61 d.2 s1 hb (hg s1 hm).1 (hg s1 hm).2).f hk) (by simp) ?_
        simp [hw, q2, q3, q5]
        exact fun h => hk (h.2 j s1 d hlt hs hd)
    · obtain rfl : j = ss.length := by omega
      exact ⟨⟨hw, hl1, by omega⟩, hV⟩
set_option maxRecDepth 100000 in
theorem w22 (c r e : DeclsP) (w : WorldP) (ss : List StrP) (cs : List Int) (h : okW w) (h2 : ss.length ≤ 2^36) (h3 : ∀ t ∈ ss, strB (2^36) t) (h4 : cs.length ≤ 2^36) (hc : c.length ≤ 2^40) (hr : r.length ≤ 2^40) (he : e.length ≤ 2^40) (hsz : ∀ l ∈ [c, r, e], ∀ d ∈ l, d.1.size ≤ 2^40) : Contract Try.prog false 22 [.ro, .ro] [regR c r e, stateR w ss cs] [.b (decide (StateOkP c r e w ss cs))] [] := by
  refine mk_contract [] Try.func22 (c := Try.f22.body.get!) (by kernel_rfl) k22 r22 (of_decide_eq_true rfl) fun _ => ?_
  have hOk := w12 c r e w h hc hr he hsz
  unfold c22; unfold regR; simp
  by_cases hw : WorldOkP c r e w
  rotate_left
  · refine callW_ms [.ro, .ro] ?_
    simp
    refine callX_of (hOk.f hw) (by simp [regR]) ?_
    simp
    exact fun h => hw h.1.1
  refine callW_ms [.ro, .ro] ?_
  simp
  refine callX_of (hOk.t hw) (by simp [regR]) ?_
  by_cases hl1 : ss.length = e.length
  rotate_left
  · have hl3 : ¬ ((ss.length : Int) = e.length) := by omega
    have hno : ¬ StateOkP c r e w ss cs := fun h => hl1 h.1.2.1
    simp [hl3, hno]
  simp [hl1]
  refine ⟨fun hl2 => ?_, fun hl2 => ?_⟩
  rotate_left
  · exact fun h => hl2 (by rw [h.1.2.2])
  refine twp_for ss.length (fun j s => s.t 2 = .pt [(4, 0)] 0 0 ∧ s.t 3 = .pt [(5, 0)] 0 0 ∧ s.t 31 = .sl false 3 (ss.map stT) ∧ s.t 32 = .i .i64 ss.length ∧ s.t 33 = .i .i64 j ∧ strsUp e ss j ∧ s.H = lk [(1, []), (4, [.po true [.sl false 2 (c.map dT), .sl false 2 (r.map dT), .sl false 2 (e.map dT)]]), (5, [.po true [.sl false 1 (w.1.map iT), .sl false 1 (w.2.1.map iT), .sl false 3 (w.2.2.1.map tbT), .sl false 4 (w.2.2.2.map vT), .sl false 3 (ss.map stT), .sl false 1 (cs.map iT)]])]) [8] (by simp) ?_ ?_
  · simp [strsUp_zero, hl1]
  · rintro j s hj ⟨q2, q3, q31, q32, q33, hV, qH⟩
    rw [nf_of qH]
    simp [q2, q3, q31, q32, q33]
    refine ⟨fun hlt => ?_, fun hge => ?_⟩
    · have hw : IntKind.i64.wrap (j + 1) = j + 1 := wrap_id (by omega) (by omega)
      obtain ⟨s1, hs⟩ := get_some hlt
      obtain ⟨d, hd⟩ := get_some (show j < e.length by omega)
      have hm := List.mem_of_getElem? hs
      have hb : strB (2^40) s1 := by have := h3 s1 hm; unfold strB at this ⊢; omega
      simp [hs, hd, hw, q2, q3, q31, q32, q33]
      by_cases hk : StrOkP d.2 s1
      · refine callW_ms [.ro, .ro] ?_
        simp [strR]
        refine callX_of ((w64 d.2 s1 hb).t hk) (by simp) ?_
        simp [hw, q2, q3, q31, q32, q33]
        exact ⟨hlt, (strsUp_succ hs hd).2 ⟨hV, hk⟩⟩
      · refine callW_ms [.ro, .ro] ?_
        simp [strR]
        refine callX_of ((w64 d.2 s1 hb).f hk) (by simp) ?_
        simp [hw, q2, q3, q31, q32, q33]
        exact fun h => hk (h.2 j s1 d hlt hs hd)
    · obtain rfl : j = ss.length := by omega
      exact ⟨⟨hw, hl1, by omega⟩, hV⟩
theorem szState_ok {w : WorldP} {ss : List StrP} {cs : List Int} {m : Int} (h0 : 0 ≤ m) (hm : m ≤ 2^20) (h : ¬ (if szWF w m < 0 then -1 else if szS szStrF ss (szWF w m) < 0 then -1 else szF (szS szStrF ss (szWF w m)) cs.length) < 0) :
    okW w ∧ ss.length ≤ 2^36 ∧ (∀ t ∈ ss, strB (2^36) t) ∧ cs.length ≤ 2^36 := by
  split at h
  · omega
  rename_i h1
  split at h
  · omega
  rename_i h2
  obtain ⟨hw, -⟩ := szW_ok (w := w) (n := m) h0 (by omega) h1
  have hA := szW_C.le w m h0
  have e := (szS_C szSt_C).eq ss (szWF w m) (by omega) (by omega)
  obtain ⟨p1, p2⟩ := szF_pos (by omega : 0 ≤ szF (szS szStrF ss (szWF w m)) cs.length)
  refine ⟨hw, by omega, fun t ht => ?_, by omega⟩
  have h3 : t.2.1.length + t.2.2.length ≤ sumN cS ss := sumN_mem (c := cS) ht
  exact ⟨by omega, by omega⟩
set_option maxRecDepth 100000 in
theorem w5 (c r e : DeclsP) (w : WorldP) (ss : List StrP) (cs : List Int) (hc : bndD c) (hr : bndD r) (he : bndD e) (hb : bdW w) (hf : fW w) (h2 : ss.length < 2^63) (h3 : ∀ t ∈ ss, bdS t) (h4 : cs.length < 2^63) (hg : ∀ t ∈ ss, valsF t.2.1 ∧ valsF t.2.2) : Contract Try.prog false 5 [.ro, .ro] [regR c r e, stateR w ss cs] [.b true] [] := by
  refine mk_contract [] Try.func5 (c := Try.f5.body.get!) (by kernel_rfl) k5 r5 (of_decide_eq_true rfl) fun _ => ?_
  unfold c5; unfold regR; simp
  refine callW_ms [.ro, .ro] ?_
  simp [regR]
  refine callX_of (w7 c r e _ hc hr he (by omega) (by omega)) (by simp) ?_
  simp
  intro h
  obtain ⟨g0, g1, hok⟩ := szRegF_ok (k := 2^20) (by omega) (by omega) (by omega : ¬ szRegF c r e 1048576 < 0)
  obtain ⟨hc2, hr2, he2⟩ := id hok
  have hall := okD_all ⟨okD_mono hok.1 (by omega : 2^20 ≤ 2^40), okD_mono hok.2.1 (by omega), okD_mono hok.2.2 (by omega)⟩
  have := hc2.1
  have := hr2.1
  have := he2.1
  generalize szRegF c r e 1048576 = m at *
  have hS := w19 w ss cs m hb h2 h3 h4 (by omega) (by omega)
  have hSo := szState_ok (w := w) (ss := ss) (cs := cs) (m := m) (by omega) (by omega)
  generalize (if szWF w m < 0 then -1 else if szS szStrF ss (szWF w m) < 0 then -1 else szF (szS szStrF ss (szWF w m)) cs.length) = q at hS hSo
  refine callW_ms [.ro, .ro] ?_
  simp
  refine callX_of hS (by simp) ?_
  simp
  intro hq
  obtain ⟨hw2, k1, k2, k3⟩ := hSo (by omega)
  refine callW_ms [.ro] ?_
  simp [regR]
  refine callX_of (w10 c r e (by omega) (by omega) (by omega)) (by simp) ?_
  simp [regO]
  refine callW_ms [.ro] ?_
  simp
  refine callX_of (w21 w ss cs hw2 k1 k2 k3) (by simp) ?_
  simp
  refine callW_ms [.ro, .ro] ?_
  simp [regR]
  refine callX_of (w20 c r e w ss cs hw2 k1 k2 k3 (by omega) (by omega) (by omega) hf hg) (by simp) ?_
  simp
  refine callW_ms [.ro] ?_
  simp [regR]
  refine callX_of (w10 c r e (by omega) (by omega) (by omega)) (by simp) ?_
  simp [regO]
  refine callW_ms [.ro] ?_
  simp
  refine callX_of (w21 w ss cs hw2 k1 k2 k3) (by simp) ?_
  simp
  refine callW_ms [.ro, .ro] ?_
  simp [regR]
  refine callX_of (w22 c r e w ss cs hw2 k1 k2 k3 (by omega) (by omega) (by omega) hall) (by simp) ?_
  simp
  refine callW_ms [.ro] ?_
  simp [regR]
  refine callX_of (w10 c r e (by omega) (by omega) (by omega)) (by simp) ?_
  simp [regO]
  refine callW_ms [.ro, .ro] ?_
  simp [regR]
  refine callX_of (w13 c r e c r e (by omega) (by omega) (by omega) (by omega) (by omega) (by omega)) (by simp) ?_
  simp
  refine callW_ms [.ro] ?_
  simp
  refine callX_of (w21 w ss cs hw2 k1 k2 k3) (by simp) ?_
  simp
  refine callW_ms [.ro, .ro] ?_
  simp
  refine callX_of (w23 w ss cs hw2 k1 k2 k3) (by simp) ?_
  simp
end Go.Proofs.YtehmdblkkpdmoaaT
