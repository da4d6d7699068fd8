/- Floats: whether +0, whether the same. -/
import Derived.Test.YtpoalnlkhlchbaaKa
import Derived.Test.YtpoalnlkhlchbaaKf0
import Derived.Tactics2
import Derived.Laws.Externs
namespace Go.Proofs.YtpoalnlkhlchbaaT
set_option linter.unusedVariables false
set_option linter.unusedSimpArgs false
open Go

theorem contract_vals {P : Program} {g : FuncId} {args : List TV} {u : TV} (ha : isAg u = false)
    (h : ∀ (w : World) (vs : List Value) (κ : Path → Value) (A : Nat → Nat → Prop), args.length = vs.length → (∀ (j : Nat) (u : TV) (v : Value), args[j]? = some u → vs[j]? = some v → RV w κ (fun _ => []) A u v) →
      ∃ v, isAgV v = false ∧ (∀ A', RR w A' u v) ∧ Calls P g vs.toArray w fun e w' => e = .returned v ∧ w' = w) :
    Contract P false g (args.map fun _ => .ro) args [u] [] := by
  intro w vs κ γ A hargs hγ hA
  obtain ⟨v, hv0, hv, hc⟩ := h w vs κ A hargs.len fun j x y hx hy => hargs.ro j x y (by simp [hx]) hx hy
  refine hc.mono fun e w' he => ?_
  obtain ⟨rfl, rfl⟩ := he
  have hcu : cellsT u = [u] := by cases u <;> first | rfl | cases ha
  have hcv : cellsV v = [v] := by cases v <;> first | rfl | cases hv0
  refine ⟨[v], fun q => if q = [(0, 0)] then v else κ q, γ, rfl, ⟨rfl, fun j a b h1 h2 => ?_, fun m c hm => ?_, fun m x hm => ?_⟩, fun m x hm => by simp at hm, fun b o q hb => ⟨hγ b o q hb, .inl ⟨q, hb⟩⟩, Chg.refl _ _⟩
  · cases j with
    | zero => cases h1; cases h2; exact ⟨by rw [ha, hv0], by rw [hcu, hcv]; rfl⟩
    | succ j => cases h1
  · rw [show ([u] : List TV).flatMap cellsT = [u] by rw [List.flatMap_cons, hcu]; rfl] at hm
    cases m with
    | zero => simp at hm; subst hm; simp; exact .pure _ _ _ (hv _)
    | succ m => simp at hm
  · rw [show ([v] : List Value).flatMap cellsV = [v] by rw [List.flatMap_cons, hcv]; rfl] at hm
    cases m with
    | zero => simp at hm; subst hm; simp
    | succ m => simp at hm

theorem canon_zero (x : Nat) : canon x = 0 ↔ x = 0 := by
  unfold canon
  split
  · rename_i h
    constructor
    · intro h2; simp at h2
    · rintro rfl; exfalso; revert h; decide
  · rfl
theorem bits_run (x : Nat) (W : World) : (callFunc 71 #[.float .f64 x]).run Try.prog W = .ok (.value (.int .u64 (x : Int))) W := by
  rw [run_callFunc_extern (fn := Try.f71) (e := Extern.MathFloatBits.float64bits) Try.func71 (by kernel_rfl) (by kernel_rfl) (by kernel_rfl) (by kernel_rfl)]
  rfl
theorem w43 (x : Nat) : Contract Try.prog false 43 [.ro] [.f x] [.b (decide (x = 0))] [] := by
  refine contract_vals (args := [.f x]) rfl fun w vs κ A hl hv => ?_
  obtain ⟨v, rfl⟩ : ∃ v, vs = [v] := by
    match vs, hl with
    | [v], _ => exact ⟨v, rfl⟩
  obtain ⟨y, rfl, hy⟩ := rv_f (hv 0 _ _ rfl rfl)
  subst hy
  refine ⟨.bool (decide (canon y = 0)), rfl, fun A' => .b _, ?_⟩
  have hf := bits_run y
  rw [show decide (canon y = 0) = decide (y = 0) from decide_eq_decide.2 (canon_zero y)]
  go_enter Try.func43, Try.ntmps43
  go_wp2
  go_ret
  exact ⟨by simp; by_cases h : y = 0 <;> simp [h], rfl⟩
theorem order_self (x : Nat) : FloatKind.f64.format.order x x = none ∨ FloatKind.f64.format.order x x = some .eq := by
  rcases h : FloatKind.f64.format.order x x with _ | o
  · exact .inl rfl
  · right
    revert h
    simp only [FloatKind.format, Ieee.Format.order]
    cases Ieee.double.read x <;> simp [Ieee.Datum.order] <;> exact fun h => h.symm
theorem canon_eq (a b : Nat) (hab : ¬ a = b) : canon a = canon b ↔ FloatKind.f64.format.order a a = none ∧ FloatKind.f64.format.order b b = none := by
  have hC : FloatKind.f64.format.order 9221120237041090561 9221120237041090561 = none := by decide
  unfold canon
  by_cases ha : FloatKind.f64.format.order a a = none <;> by_cases hb : FloatKind.f64.format.order b b = none <;> simp [ha, hb, hab]
  · rintro rfl; exact hb hC
  · rintro rfl; exact ha hC
theorem neq_run (t : TypeId) (a b : Nat) (W : World) : Sem.run Try.prog (binOp BinOp.neq t (Value.float FloatKind.f64 a) (Value.float FloatKind.f64 b)) W = .ok (.bool (FloatKind.f64.format.order a b != some .eq)) W := by
  simp [binOp, Op.floatCmp]
theorem W41e (a b : Nat) (w : World) (hab : a = b) : Calls Try.prog 41 #[.float .f64 a, .float .f64 b] w fun e w' => e = .returned (.bool (decide (canon a = canon b))) ∧ w' = w := by
  have hf := bits_run a
  have hg := bits_run b
  subst hab
  go_enter Try.func41, Try.ntmps41
  go_wp2
  go_ret
  exact ⟨by simp, rfl⟩
theorem W41n (a b : Nat) (w : World) (hab : ¬ a = b) (ha : FloatKind.f64.format.order a a = none) (hb : FloatKind.f64.format.order b b = none) : Calls Try.prog 41 #[.float .f64 a, .float .f64 b] w fun e w' => e = .returned (.bool (decide (canon a = canon b))) ∧ w' = w := by
  have hf := bits_run a
  have hg := bits_run b
  have hab' : ((a : Int) == (b : Int)) = false := by simp; omega
  have h1 := fun t W => neq_run t a a W
  simp only [ha] at h1
  have h2 := fun t W => neq_run t b b W
  simp only [hb] at h2
  rw [show decide (canon a = canon b) = true from decide_eq_true ((canon_eq a b hab).2 ⟨ha, hb⟩)]
  go_enter Try.func41, Try.ntmps41
  go_wp2
  go_ret
  exact ⟨rfl, rfl⟩
theorem W41m (a b : Nat) (w : World) (hab : ¬ a = b) (ha : FloatKind.f64.format.order a a = none) (hb : FloatKind.f64.format.order b b = some .eq) : Calls Try.prog 41 #[.float .f64 a, .float .f64 b] w fun e w' => e = .returned (.bool (decide (canon a = canon b))) ∧ w' = w := by
  have hf := bits_run a
  have hg := bits_run b
  have hab' : ((a : Int) == (b : Int)) = false := by simp; omega
  have h1 := fun t W => neq_run t a a W
  simp only [ha] at h1
  have h2 := fun t W => neq_run t b b W
  simp only [hb] at h2
  rw [show decide (canon a = canon b) = false from decide_eq_false (fun h => by rw [((canon_eq a b hab).1 h).2] at hb; cases hb)]
  go_enter Try.func41, Try.ntmps41
  go_wp2
  go_ret
  exact ⟨rfl, rfl⟩
theorem W41o (a b : Nat) (w : World) (hab : ¬ a = b) (ha : FloatKind.f64.format.order a a = some .eq) : Calls Try.prog 41 #[.float .f64 a, .float .f64 b] w fun e w' => e = .returned (.bool (decide (canon a = canon b))) ∧ w' = w := by
  have hf := bits_run a
  have hg := bits_run b
  have hab' : ((a : Int) == (b : Int)) = false := by simp; omega
  have h1 := fun t W => neq_run t a a W
  simp only [ha] at h1
  rw [show decide (canon a = canon b) = false from decide_eq_false (fun h => by rw [((canon_eq a b hab).1 h).1] at ha; cases ha)]
  go_enter Try.func41, Try.ntmps41
  go_wp2
  go_ret
  exact ⟨rfl, rfl⟩
theorem w41 (x y : Nat) : Contract Try.prog false 41 [.ro, .ro] [.f x, .f y] [.b (decide (x = y))] [] := by
  refine contract_vals (args := [.f x, .f y]) rfl fun w vs κ A hl hv => ?_
  obtain ⟨v, v', rfl⟩ : ∃ v v', vs = [v, v'] := by
    match vs, hl with
    | [v, v'], _ => exact ⟨v, v', rfl⟩
  obtain ⟨a, rfl, hy⟩ := rv_f (hv 0 _ _ rfl rfl)
  subst hy
  obtain ⟨b, rfl, hy⟩ := rv_f (hv 1 _ _ rfl rfl)
  subst hy
  refine ⟨.bool (decide (canon a = canon b)), rfl, fun A' => .b _, ?_⟩
  by_cases hab : a = b
  · exact W41e a b w hab
  · rcases order_self a with ha | ha
    · rcases order_self b with hb | hb
      · exact W41n a b w hab ha hb
      · exact W41m a b w hab ha hb
    · exact W41o a b w hab ha
end Go.Proofs.YtpoalnlkhlchbaaT
