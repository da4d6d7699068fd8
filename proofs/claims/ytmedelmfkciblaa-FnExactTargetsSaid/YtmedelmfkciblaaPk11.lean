/- Texts of this session's own, one behind the other: Kv0, Kv1, Kv2, Kw1, Kb, Kc, Kd, Ke, Kf, Kg, Kx1, Ky1, Kx4. -/
import Derived.Test.YtmedelmfkciblaaPk10
import Derived.Tactics2
import Derived.Laws.Externs
/- Floats: whether +0, whether the same. -/
namespace Go.Proofs.YtmedelmfkciblaaT
set_option linter.unusedVariables false
set_option linter.unusedSimpArgs false
open Go

theorem contract_vals {P : Program} {g : FuncId} {args : List TV} {u : TV} (ha : isAg u = false)
    (h : ∀ (w : World) (vs : List Value) (κ : Path → Value) (A : Nat → Nat → Prop), args.length = vs.length → (∀ (j : Nat) (u : TV) (v : Value), args[j]? = some u → vs[j]? = some v → RV w κ (fun _ => []) A u v) →
      ∃ v, isAgV v = false ∧ (∀ A', RR w A' u v) ∧ Calls P g vs.toArray w fun e w' => e = .returned v ∧ w' = w) :
    Contract P false g (args.map fun _ => .ro) args [u] [] := by
  intro w vs κ γ A hargs hγ hA
  obtain ⟨v, hv0, hv, hc⟩ := h w vs κ A hargs.len fun j x y hx hy => hargs.ro j x y (by simp [hx]) hx hy
  refine hc.mono fun e w' he => ?_
  obtain ⟨rfl, rfl⟩ := he
  have hcu : cellsT u = [u] := by cases u <;> first | rfl | cases ha
  have hcv : cellsV v = [v] := by cases v <;> first | rfl | cases hv0
  refine ⟨[v], fun q => if q = [(0, 0)] then v else κ q, γ, rfl, ⟨rfl, fun j a b h1 h2 => ?_, fun m c hm => ?_, fun m x hm => ?_⟩, fun m x hm => by simp at hm, fun b o q hb => ⟨hγ b o q hb, .inl ⟨q, hb⟩⟩, Chg.refl _ _⟩
  · cases j with
    | zero => cases h1; cases h2; exact ⟨by rw [ha, hv0], by rw [hcu, hcv]; rfl⟩
    | succ j => cases h1
  · rw [show ([u] : List TV).flatMap cellsT = [u] by rw [List.flatMap_cons, hcu]; rfl] at hm
    cases m with
    | zero => simp at hm; subst hm; simp; exact .pure _ _ _ (hv _)
    | succ m => simp at hm
  · rw [show ([v] : List Value).flatMap cellsV = [v] by rw [List.flatMap_cons, hcv]; rfl] at hm
    cases m with
    | zero => simp at hm; subst hm; simp
    | succ m => simp at hm

theorem canon_zero (x : Nat) : canon x = 0 ↔ x = 0 := by
  unfold canon
  split
  · rename_i h
    constructor
    · intro h2; simp at h2
    · rintro rfl; exfalso; revert h; decide
  · rfl
theorem bits_run (x : Nat) (W : World) : (callFunc 225 #[.float .f64 x]).run Try.prog W = .ok (.value (.int .u64 (x : Int))) W := by
  rw [run_callFunc_extern (fn := Try.f225) (e := Extern.MathFloatBits.float64bits) Try.func225 (by kernel_rfl) (by kernel_rfl) (by kernel_rfl) (by kernel_rfl)]
  rfl
theorem w235 (x : Nat) : Contract Try.prog false 235 [.ro] [.f x] [.b (decide (x = 0))] [] := by
  refine contract_vals (args := [.f x]) rfl fun w vs κ A hl hv => ?_
  obtain ⟨v, rfl⟩ : ∃ v, vs = [v] := by
    match vs, hl with
    | [v], _ => exact ⟨v, rfl⟩
  obtain ⟨y, rfl, hy⟩ := rv_f (hv 0 _ _ rfl rfl)
  subst hy
  refine ⟨.bool (decide (canon y = 0)), rfl, fun A' => .b _, ?_⟩
  have hf := bits_run y
  rw [show decide (canon y = 0) = decide (y = 0) from decide_eq_decide.2 (canon_zero y)]
  go_enter Try.func235, Try.ntmps235
  go_wp2
  go_ret
  exact ⟨by simp; by_cases h : y = 0 <;> simp [h], rfl⟩
theorem order_self (x : Nat) : FloatKind.f64.format.order x x = none ∨ FloatKind.f64.format.order x x = some .eq := by
  rcases h : FloatKind.f64.format.order x x with _ | o
  · exact .inl rfl
  · right
    revert h
    simp only [FloatKind.format, Ieee.Format.order]
    cases Ieee.double.read x <;> simp [Ieee.Datum.order] <;> exact fun h => h.symm
theorem canon_eq (a b : Nat) (hab : ¬ a = b) : canon a = canon b ↔ FloatKind.f64.format.order a a = none ∧ FloatKind.f64.format.order b b = none := by
  have hC : FloatKind.f64.format.order 9221120237041090561 9221120237041090561 = none := by decide
  unfold canon
  by_cases ha : FloatKind.f64.format.order a a = none <;> by_cases hb : FloatKind.f64.format.order b b = none <;> simp [ha, hb, hab]
  · rintro rfl; exact hb hC
  · rintro rfl; exact ha hC
theorem neq_run (t : TypeId) (a b : Nat) (W : World) : Sem.run Try.prog (binOp BinOp.neq t (Value.float FloatKind.f64 a) (Value.float FloatKind.f64 b)) W = .ok (.bool (FloatKind.f64.format.order a b != some .eq)) W := by
  simp [binOp, Op.floatCmp]
theorem W200e (a b : Nat) (w : World) (hab : a = b) : Calls Try.prog 200 #[.float .f64 a, .float .f64 b] w fun e w' => e = .returned (.bool (decide (canon a = canon b))) ∧ w' = w := by
  have hf := bits_run a
  have hg := bits_run b
  subst hab
  go_enter Try.func200, Try.ntmps200
  go_wp2
  go_ret
  exact ⟨by simp, rfl⟩
theorem W200n (a b : Nat) (w : World) (hab : ¬ a = b) (ha : FloatKind.f64.format.order a a = none) (hb : FloatKind.f64.format.order b b = none) : Calls Try.prog 200 #[.float .f64 a, .float .f64 b] w fun e w' => e = .returned (.bool (decide (canon a = canon b))) ∧ w' = w := by
  have hf := bits_run a
  have hg := bits_run b
  have hab' : ((a : Int) == (b : Int)) = false := by simp; omega
  have h1 := fun t W => neq_run t a a W
  simp only [ha] at h1
  have h2 := fun t W => neq_run t b b W
  simp only [hb] at h2
  rw [show decide (canon a = canon b) = true from decide_eq_true ((canon_eq a b hab).2 ⟨ha, hb⟩)]
  go_enter Try.func200, Try.ntmps200
  go_wp2
  go_ret
  exact ⟨rfl, rfl⟩
theorem W200m (a b : Nat) (w : World) (hab : ¬ a = b) (ha : FloatKind.f64.format.order a a = none) (hb : FloatKind.f64.format.order b b = some .eq) : Calls Try.prog 200 #[.float .f64 a, .float .f64 b] w fun e w' => e = .returned (.bool (decide (canon a = canon b))) ∧ w' = w := by
  have hf := bits_run a
  have hg := bits_run b
  have hab' : ((a : Int) == (b : Int)) = false := by simp; omega
  have h1 := fun t W => neq_run t a a W
  simp only [ha] at h1
  have h2 := fun t W => neq_run t b b W
  simp only [hb] at h2
  rw [show decide (canon a = canon b) = false from decide_eq_false (fun h => by rw [((canon_eq a b hab).1 h).2] at hb; cases hb)]
  go_enter Try.func200, Try.ntmps200
  go_wp2
  go_ret
  exact ⟨rfl, rfl⟩
theorem W200o (a b : Nat) (w : World) (hab : ¬ a = b) (ha : FloatKind.f64.format.order a a = some .eq) : Calls Try.prog 200 #[.float .f64 a, .float .f64 b] w fun e w' => e = .returned (.bool (decide (canon a = canon b))) ∧ w' = w := by
  have hf := bits_run a
  have hg := bits_run b
  have hab' : ((a : Int) == (b : Int)) = false := by simp; omega
  have h1 := fun t W => neq_run t a a W
  simp only [ha] at h1
  rw [show decide (canon a = canon b) = false from decide_eq_false (fun h => by rw [((canon_eq a b hab).1 h).1] at ha; cases ha)]
  go_enter Try.func200, Try.ntmps200
  go_wp2
  go_ret
  exact ⟨rfl, rfl⟩
theorem w200 (x y : Nat) : Contract Try.prog false 200 [.ro, .ro] [.f x, .f y] [.b (decide (x = y))] [] := by
  refine contract_vals (args := [.f x, .f y]) rfl fun w vs κ A hl hv => ?_
  obtain ⟨v, v', rfl⟩ : ∃ v v', vs = [v, v'] := by
    match vs, hl with
    | [v, v'], _ => exact ⟨v, v', rfl⟩
  obtain ⟨a, rfl, hy⟩ := rv_f (hv 0 _ _ rfl rfl)
  subst hy
  obtain ⟨b, rfl, hy⟩ := rv_f (hv 1 _ _ rfl rfl)
  subst hy
  refine ⟨.bool (decide (canon a = canon b)), rfl, fun A' => .b _, ?_⟩
  by_cases hab : a = b
  · exact W200e a b w hab
  · rcases order_self a with ha | ha
    · rcases order_self b with hb | hb
      · exact W200n a b w hab ha hb
      · exact W200m a b w hab ha hb
    · exact W200o a b w hab ha
end Go.Proofs.YtmedelmfkciblaaT

/- Values: the same, right, nought. -/
namespace Go.Proofs.YtmedelmfkciblaaT
set_option linter.unusedVariables false
set_option linter.unusedSimpArgs false
open Go

/- spec.l1Plus -/
def c187 : TCode := (.seq (.ops [⟨(some 2), 4, .mv (.c (.b false)), none, []⟩])
  (.seq (.ops [⟨(some 3), 5, .mv (.t 0), none, []⟩, ⟨(some 4), 6, .bin .eql (.t 3) (.c (.f 0)), none, []⟩, ⟨(some 5), 7, .mv (.t 4), none, []⟩, ⟨(some 6), 8, .mv (.t 0), (some (5, true)), []⟩, ⟨(some 7), 9, .bin .quo (.c (.f 4607182418800017408)) (.t 6), (some (5, true)), []⟩, ⟨(some 8), 10, .bin .gtr (.t 7) (.c (.f 0)), (some (5, true)), []⟩, ⟨(some 9), 11, .pick (.t 5) (.t 8) (.c (.b false)), none, []⟩, ⟨(some 2), 4, .mv (.t 9), none, []⟩])
  .ret))
theorem k187 : compCode Try.prog Try.f187.ntmps Try.f187.body.get! = some c187 := by kernel_rfl
theorem r187 : resTmps Try.prog Try.f187.results.toList = some [.tmp 2] := by kernel_rfl
/- spec.l1Same -/
def c199 : TCode := (.seq (.ops [⟨(some 4), 6, .mv (.c (.b false)), none, []⟩])
  (.seq (.seq (.ops [⟨(some 5), 7, .mv (.t 0), none, []⟩, ⟨(some 6), 8, .mv (.t 0), none, []⟩, ⟨(some 7), 9, .bin .neq (.t 5) (.t 6), none, []⟩, ⟨(some 8), 10, .mv (.t 7), none, []⟩, ⟨(some 9), 11, .mv (.t 1), (some (8, false)), []⟩, ⟨(some 10), 12, .mv (.t 1), (some (8, false)), []⟩, ⟨(some 11), 13, .bin .neq (.t 9) (.t 10), (some (8, false)), []⟩, ⟨(some 12), 14, .pick (.t 8) (.c (.b true)) (.t 11), none, []⟩])
  (.cond (.t 12)
  (.seq (.ops [⟨(some 13), 15, .mv (.t 0), none, []⟩, ⟨(some 14), 16, .mv (.t 0), none, []⟩, ⟨(some 15), 17, .bin .neq (.t 13) (.t 14), none, []⟩, ⟨(some 16), 18, .mv (.t 15), none, []⟩, ⟨(some 17), 19, .mv (.t 1), (some (16, true)), []⟩, ⟨(some 18), 20, .mv (.t 1), (some (16, true)), []⟩, ⟨(some 19), 21, .bin .neq (.t 17) (.t 18), (some (16, true)), []⟩, ⟨(some 20), 22, .pick (.t 16) (.t 19) (.c (.b false)), none, []⟩, ⟨(some 4), 6, .mv (.t 20), none, []⟩])
  .ret)
  .skip))
  (.seq (.ops [⟨(some 21), 23, .mv (.t 0), none, []⟩, ⟨(some 22), 24, .mv (.t 1), none, []⟩, ⟨(some 23), 25, .bin .eql (.t 21) (.t 22), none, []⟩, ⟨(some 24), 26, .mv (.t 23), none, []⟩, ⟨(some 25), 27, .mv (.t 0), (some (24, true)), []⟩, ⟨(some 26), 28, .bin .neq (.t 25) (.c (.f 0)), (some (24, true)), []⟩, ⟨(some 27), 29, .mv (.t 26), (some (24, true)), []⟩, ⟨(some 28), 30, .mv (.t 0), (some (27, false)), []⟩, ⟨(some 29), 31, .call 187 [((.t 28), 0)], (some (27, false)), []⟩, ⟨(some 30), 32, .mv (.t 1), (some (27, false)), []⟩, ⟨(some 31), 33, .call 187 [((.t 30), 0)], (some (27, false)), []⟩, ⟨(some 32), 34, .eqs false false [.b] (.t 29) (.t 31), (some (27, false)), []⟩, ⟨(some 33), 35, .pick (.t 27) (.c (.b true)) (.t 32), (some (24, true)), []⟩, ⟨(some 34), 36, .pick (.t 24) (.t 33) (.c (.b false)), none, []⟩, ⟨(some 4), 6, .mv (.t 34), none, []⟩])
  .ret)))
theorem k199 : compCode Try.prog Try.f199.ntmps Try.f199.body.get! = some c199 := by kernel_rfl
theorem r199 : resTmps Try.prog Try.f199.results.toList = some [.tmp 4] := by kernel_rfl
/- laws.sameFloat -/
def c156 : TCode := (.seq (.ops [⟨(some 4), 6, .mv (.c (.b false)), none, []⟩])
  (.seq (.seq (.ops [⟨(some 5), 7, .mv (.t 0), none, []⟩, ⟨(some 6), 8, .mv (.t 0), none, []⟩, ⟨(some 7), 9, .bin .neq (.t 5) (.t 6), none, []⟩, ⟨(some 8), 10, .mv (.t 7), none, []⟩, ⟨(some 9), 11, .mv (.t 1), (some (8, false)), []⟩, ⟨(some 10), 12, .mv (.t 1), (some (8, false)), []⟩, ⟨(some 11), 13, .bin .neq (.t 9) (.t 10), (some (8, false)), []⟩, ⟨(some 12), 14, .pick (.t 8) (.c (.b true)) (.t 11), none, []⟩])
  (.cond (.t 12)
  (.seq (.ops [⟨(some 13), 15, .mv (.t 0), none, []⟩, ⟨(some 14), 16, .mv (.t 0), none, []⟩, ⟨(some 15), 17, .bin .neq (.t 13) (.t 14), none, []⟩, ⟨(some 16), 18, .mv (.t 15), none, []⟩, ⟨(some 17), 19, .mv (.t 1), (some (16, true)), []⟩, ⟨(some 18), 20, .mv (.t 1), (some (16, true)), []⟩, ⟨(some 19), 21, .bin .neq (.t 17) (.t 18), (some (16, true)), []⟩, ⟨(some 20), 22, .pick (.t 16) (.t 19) (.c (.b false)), none, []⟩, ⟨(some 4), 6, .mv (.t 20), none, []⟩])
  .ret)
  .skip))
  (.seq (.seq (.ops [⟨(some 21), 23, .mv (.t 0), none, []⟩, ⟨(some 22), 24, .bin .eql (.t 21) (.c (.f 0)), none, []⟩, ⟨(some 23), 25, .mv (.t 22), none, []⟩, ⟨(some 24), 26, .mv (.t 1), (some (23, true)), []⟩, ⟨(some 25), 27, .bin .eql (.t 24) (.c (.f 0)), (some (23, true)), []⟩, ⟨(some 26), 28, .pick (.t 23) (.t 25) (.c (.b false)), none, []⟩])
  (.cond (.t 26)
  (.seq (.ops [⟨(some 27), 29, .mv (.t 0), none, []⟩, ⟨(some 28), 30, .bin .quo (.c (.f 4607182418800017408)) (.t 27), none, []⟩, ⟨(some 29), 31, .bin .gtr (.t 28) (.c (.f 0)), none, []⟩, ⟨(some 30), 32, .mv (.t 1), none, []⟩, ⟨(some 31), 33, .bin .quo (.c (.f 4607182418800017408)) (.t 30), none, []⟩, ⟨(some 32), 34, .bin .gtr (.t 31) (.c (.f 0)), none, []⟩, ⟨(some 33), 35, .eqs false false [.b] (.t 29) (.t 32), none, []⟩, ⟨(some 4), 6, .mv (.t 33), none, []⟩])
  .ret)
  .skip))
  (.seq (.ops [⟨(some 34), 36, .mv (.t 0), none, []⟩, ⟨(some 35), 37, .mv (.t 1), none, []⟩, ⟨(some 36), 38, .bin .eql (.t 34) (.t 35), none, []⟩, ⟨(some 4), 6, .mv (.t 36), none, []⟩])
  .ret))))
theorem k156 : compCode Try.prog Try.f156.ntmps Try.f156.body.get! = some c156 := by kernel_rfl
theorem r156 : resTmps Try.prog Try.f156.results.toList = some [.tmp 4] := by kernel_rfl
/- laws.toVal -/
def c89 : TCode := (.seq (.ops [⟨(some 1), 3, .box 4 (.t 0), none, []⟩, ⟨(some 2), 4, .box 4 (.c (.ag [(.i .i64 0), (.i .i64 0), (.f 0), (.f 0)])), none, []⟩])
  (.seq (.ops [⟨(some 3), 5, .box 4 (.c (.ag [(.i .i64 0), (.i .i64 0), (.f 0), (.f 0)])), none, []⟩])
  (.seq (.ops [⟨(some 4), 6, .faddr 0 1 (.t 1), none, []⟩, ⟨(some 5), 7, .load false 1 (.t 4), none, []⟩, ⟨(some 6), 8, .faddr 0 1 (.t 3), none, []⟩, ⟨none, 1002003, .store 1 (.t 6) (.t 5), none, []⟩])
  (.seq (.ops [⟨(some 7), 9, .faddr 1 1 (.t 1), none, []⟩, ⟨(some 8), 10, .load false 1 (.t 7), none, []⟩, ⟨(some 9), 11, .faddr 1 1 (.t 3), none, []⟩, ⟨none, 1003003, .store 1 (.t 9) (.t 8), none, []⟩])
  (.seq (.ops [⟨(some 10), 12, .faddr 2 1 (.t 1), none, []⟩, ⟨(some 11), 13, .load false 1 (.t 10), none, []⟩, ⟨(some 12), 14, .faddr 2 1 (.t 3), none, []⟩, ⟨none, 1004003, .store 1 (.t 12) (.t 11), none, []⟩])
  (.seq (.ops [⟨(some 13), 15, .faddr 3 1 (.t 1), none, []⟩, ⟨(some 14), 16, .load false 1 (.t 13), none, []⟩, ⟨(some 15), 17, .faddr 3 1 (.t 3), none, []⟩, ⟨none, 1005003, .store 1 (.t 15) (.t 14), none, []⟩])
  (.seq (.ops [⟨(some 16), 18, .load true 4 (.t 3), none, []⟩, ⟨none, 1006001, .store 4 (.t 2) (.t 16), none, []⟩])
  .ret)))))))
theorem k89 : compCode Try.prog Try.f89.ntmps Try.f89.body.get! = some c89 := by kernel_rfl
theorem r89 : resTmps Try.prog Try.f89.results.toList = some [.cell 2 true 4] := by kernel_rfl
/- laws.eqVal -/
def c95 : TCode := (.seq (.ops [⟨(some 2), 4, .box 4 (.t 0), none, []⟩, ⟨(some 3), 5, .box 4 (.t 1), none, []⟩, ⟨(some 4), 6, .mv (.c (.b false)), none, []⟩])
  (.seq (.seq (.ops [⟨(some 5), 7, .faddr 0 1 (.t 2), none, []⟩, ⟨(some 6), 8, .load false 1 (.t 5), none, []⟩, ⟨(some 7), 9, .faddr 0 1 (.t 3), none, []⟩, ⟨(some 8), 10, .load false 1 (.t 7), none, []⟩, ⟨(some 9), 11, .bin .neq (.t 6) (.t 8), none, []⟩])
  (.cond (.t 9)
  (.seq (.ops [⟨(some 4), 6, .mv (.c (.b false)), none, []⟩])
  .ret)
  .skip))
  (.seq (.seq (.ops [⟨(some 10), 12, .faddr 1 1 (.t 2), none, []⟩, ⟨(some 11), 13, .load false 1 (.t 10), none, []⟩, ⟨(some 12), 14, .faddr 1 1 (.t 3), none, []⟩, ⟨(some 13), 15, .load false 1 (.t 12), none, []⟩, ⟨(some 14), 16, .bin .neq (.t 11) (.t 13), none, []⟩])
  (.cond (.t 14)
  (.seq (.ops [⟨(some 4), 6, .mv (.c (.b false)), none, []⟩])
  .ret)
  .skip))
  (.seq (.seq (.ops [⟨(some 15), 17, .faddr 2 1 (.t 2), none, []⟩, ⟨(some 16), 18, .load false 1 (.t 15), none, []⟩, ⟨(some 17), 19, .faddr 2 1 (.t 3), none, []⟩, ⟨(some 18), 20, .load false 1 (.t 17), none, []⟩, ⟨(some 19), 21, .call 156 [((.t 16), 0), ((.t 18), 0)], none, []⟩, ⟨(some 20), 22, .un .not (.t 19), none, []⟩])
  (.cond (.t 20)
  (.seq (.ops [⟨(some 4), 6, .mv (.c (.b false)), none, []⟩])
  .ret)
  .skip))
  (.seq (.seq (.ops [⟨(some 21), 23, .faddr 3 1 (.t 2), none, []⟩, ⟨(some 22), 24, .load false 1 (.t 21), none, []⟩, ⟨(some 23), 25, .faddr 3 1 (.t 3), none, []⟩, ⟨(some 24), 26, .load false 1 (.t 23), none, []⟩, ⟨(some 25), 27, .call 156 [((.t 22), 0), ((.t 24), 0)], none, []⟩, ⟨(some 26), 28, .un .not (.t 25), none, []⟩])
  (.cond (.t 26)
  (.seq (.ops [⟨(some 4), 6, .mv (.c (.b false)), none, []⟩])
  .ret)
  .skip))
  (.seq (.ops [⟨(some 4), 6, .mv (.c (.b true)), none, []⟩])
  .ret))))))
theorem k95 : compCode Try.prog Try.f95.ntmps Try.f95.body.get! = some c95 := by kernel_rfl
theorem r95 : resTmps Try.prog Try.f95.results.toList = some [.tmp 4] := by kernel_rfl
/- spec.ValSame -/
def c164 : TCode := (.seq (.ops [⟨(some 2), 4, .box 4 (.t 0), none, []⟩, ⟨(some 3), 5, .box 4 (.t 1), none, []⟩, ⟨(some 4), 6, .mv (.c (.b false)), none, []⟩])
  (.seq (.ops [⟨(some 5), 7, .faddr 0 1 (.t 2), none, []⟩, ⟨(some 6), 8, .load false 1 (.t 5), none, []⟩, ⟨(some 7), 9, .faddr 0 1 (.t 3), none, []⟩, ⟨(some 8), 10, .load false 1 (.t 7), none, []⟩, ⟨(some 9), 11, .bin .eql (.t 6) (.t 8), none, []⟩, ⟨(some 10), 12, .mv (.t 9), none, []⟩, ⟨(some 11), 13, .faddr 1 1 (.t 2), (some (10, true)), []⟩, ⟨(some 12), 14, .load false 1 (.t 11), (some (10, true)), []⟩, ⟨(some 13), 15, .faddr 1 1 (.t 3), (some (10, true)), []⟩, ⟨(some 14), 16, .load false 1 (.t 13), (some (10, true)), []⟩, ⟨(some 15), 17, .bin .eql (.t 12) (.t 14), (some (10, true)), []⟩, ⟨(some 16), 18, .pick (.t 10) (.t 15) (.c (.b false)), none, []⟩, ⟨(some 17), 19, .mv (.t 16), none, []⟩, ⟨(some 18), 20, .faddr 2 1 (.t 2), (some (17, true)), []⟩, ⟨(some 19), 21, .load false 1 (.t 18), (some (17, true)), []⟩, ⟨(some 20), 22, .faddr 2 1 (.t 3), (some (17, true)), []⟩, ⟨(some 21), 23, .load false 1 (.t 20), (some (17, true)), []⟩, ⟨(some 22), 24, .call 199 [((.t 19), 0), ((.t 21), 0)], (some (17, true)), []⟩, ⟨(some 23), 25, .pick (.t 17) (.t 22) (.c (.b false)), none, []⟩, ⟨(some 24), 26, .mv (.t 23), none, []⟩, ⟨(some 25), 27, .faddr 3 1 (.t 2), (some (24, true)), []⟩, ⟨(some 26), 28, .load false 1 (.t 25), (some (24, true)), []⟩, ⟨(some 27), 29, .faddr 3 1 (.t 3), (some (24, true)), []⟩, ⟨(some 28), 30, .load false 1 (.t 27), (some (24, true)), []⟩, ⟨(some 29), 31, .call 199 [((.t 26), 0), ((.t 28), 0)], (some (24, true)), []⟩, ⟨(some 30), 32, .pick (.t 24) (.t 29) (.c (.b false)), none, []⟩, ⟨(some 4), 6, .mv (.t 30), none, []⟩])
  .ret))
theorem k164 : compCode Try.prog Try.f164.ntmps Try.f164.body.get! = some c164 := by kernel_rfl
theorem r164 : resTmps Try.prog Try.f164.results.toList = some [.tmp 4] := by kernel_rfl
/- impl.ValSame -/
def c166 : TCode := (.seq (.ops [⟨(some 2), 4, .box 4 (.t 0), none, []⟩, ⟨(some 3), 5, .box 4 (.t 1), none, []⟩, ⟨(some 4), 6, .mv (.c (.b false)), none, []⟩])
  (.seq (.ops [⟨(some 5), 7, .faddr 0 1 (.t 2), none, []⟩, ⟨(some 6), 8, .load false 1 (.t 5), none, []⟩, ⟨(some 7), 9, .faddr 0 1 (.t 3), none, []⟩, ⟨(some 8), 10, .load false 1 (.t 7), none, []⟩, ⟨(some 9), 11, .bin .eql (.t 6) (.t 8), none, []⟩, ⟨(some 10), 12, .mv (.t 9), none, []⟩, ⟨(some 11), 13, .faddr 1 1 (.t 2), (some (10, true)), []⟩, ⟨(some 12), 14, .load false 1 (.t 11), (some (10, true)), []⟩, ⟨(some 13), 15, .faddr 1 1 (.t 3), (some (10, true)), []⟩, ⟨(some 14), 16, .load false 1 (.t 13), (some (10, true)), []⟩, ⟨(some 15), 17, .bin .eql (.t 12) (.t 14), (some (10, true)), []⟩, ⟨(some 16), 18, .pick (.t 10) (.t 15) (.c (.b false)), none, []⟩, ⟨(some 17), 19, .mv (.t 16), none, []⟩, ⟨(some 18), 20, .faddr 2 1 (.t 2), (some (17, true)), []⟩, ⟨(some 19), 21, .load false 1 (.t 18), (some (17, true)), []⟩, ⟨(some 20), 22, .faddr 2 1 (.t 3), (some (17, true)), []⟩, ⟨(some 21), 23, .load false 1 (.t 20), (some (17, true)), []⟩, ⟨(some 22), 24, .call 200 [((.t 19), 0), ((.t 21), 0)], (some (17, true)), []⟩, ⟨(some 23), 25, .pick (.t 17) (.t 22) (.c (.b false)), none, []⟩, ⟨(some 24), 26, .mv (.t 23), none, []⟩, ⟨(some 25), 27, .faddr 3 1 (.t 2), (some (24, true)), []⟩, ⟨(some 26), 28, .load false 1 (.t 25), (some (24, true)), []⟩, ⟨(some 27), 29, .faddr 3 1 (.t 3), (some (24, true)), []⟩, ⟨(some 28), 30, .load false 1 (.t 27), (some (24, true)), []⟩, ⟨(some 29), 31, .call 200 [((.t 26), 0), ((.t 28), 0)], (some (24, true)), []⟩, ⟨(some 30), 32, .pick (.t 24) (.t 29) (.c (.b false)), none, []⟩, ⟨(some 4), 6, .mv (.t 30), none, []⟩])
  .ret))
theorem k166 : compCode Try.prog Try.f166.ntmps Try.f166.body.get! = some c166 := by kernel_rfl
theorem r166 : resTmps Try.prog Try.f166.results.toList = some [.tmp 4] := by kernel_rfl

theorem w187 (x : Nat) (hx : fOk x) : Contract Try.prog false 187 [.ro] [.f x] [.b (decide (x = 0))] [] := by
  refine mk_contract [] Try.func187 (c := Try.f187.body.get!) (by kernel_rfl) k187 r187 (of_decide_eq_true rfl) fun _ => ?_
  unfold c187; simp [feqz hx]
  by_cases h0 : x = 0
  · subst h0; simp [inv_zero, gt_infb]
  by_cases h1 : x = 9223372036854775808
  · subst h1; simp [inv_mzero, gt_minfb]
  simp [h0, h1]
theorem w199 (x y : Nat) (hx : fOk x) (hy : fOk y) : Contract Try.prog false 199 [.ro, .ro] [.f x, .f y] [.b (decide (x = y))] [] := by
  refine mk_contract [] Try.func199 (c := Try.f199.body.get!) (by kernel_rfl) k199 r199 (of_decide_eq_true rfl) fun _ => ?_
  unfold c199; simp [fne_self, feqb hx hy, fnez hx, fnez hy, feqz hx, feqz hy, inv_zero, inv_mzero, gt_infb, gt_minfb]
  by_cases nx : isN x
  · by_cases ny : isN y
    · simp [fne_self, feqb hx hy, fnez hx, fnez hy, feqz hx, feqz hy, inv_zero, inv_mzero, gt_infb, gt_minfb, nx, ny]; rw [fOk_nan hx nx, fOk_nan hy ny]
    · have : ¬ x = y := by rintro rfl; exact ny nx
      simp [fne_self, feqb hx hy, fnez hx, fnez hy, feqz hx, feqz hy, inv_zero, inv_mzero, gt_infb, gt_minfb, nx, ny, this]
  · by_cases ny : isN y
    · have : ¬ x = y := by rintro rfl; exact nx ny
      simp [fne_self, feqb hx hy, fnez hx, fnez hy, feqz hx, feqz hy, inv_zero, inv_mzero, gt_infb, gt_minfb, nx, ny, this]
    · simp [fne_self, feqb hx hy, fnez hx, fnez hy, feqz hx, feqz hy, inv_zero, inv_mzero, gt_infb, gt_minfb, nx, ny]
      by_cases hxy : x = y
      · subst hxy
        by_cases hz : rg x = 0
        · rcases (rg_zero hx).1 hz with rfl | rfl <;> simp [fne_self, feqb hx hy, fnez hx, fnez hy, feqz hx, feqz hy, inv_zero, inv_mzero, gt_infb, gt_minfb]
          · refine callW_ms [.ro] ?_
            simp
            refine callX_of (w187 0 hx) (by simp) ?_
            simp
            refine callW_ms [.ro] ?_
            simp
            refine callX_of (w187 0 hx) (by simp) ?_
            simp
          · refine callW_ms [.ro] ?_
            simp
            refine callX_of (w187 _ hx) (by simp) ?_
            simp
            refine callW_ms [.ro] ?_
            simp
            refine callX_of (w187 _ hx) (by simp) ?_
            simp
        · have hz2 := fun h => hz ((rg_zero hx).2 h)
          have h1 : ¬ x = 0 := fun h => hz2 (.inl h)
          have h2 : ¬ x = 9223372036854775808 := fun h => hz2 (.inr h)
          simp [fne_self, feqb hx hy, fnez hx, fnez hy, feqz hx, feqz hy, inv_zero, inv_mzero, gt_infb, gt_minfb, h1, h2]
      · by_cases hz : rg x = 0
        · by_cases hz' : rg y = 0
          · rcases (rg_zero hx).1 hz with rfl | rfl <;> rcases (rg_zero hy).1 hz' with rfl | rfl <;> simp [fne_self, feqb hx hy, fnez hx, fnez hy, feqz hx, feqz hy, inv_zero, inv_mzero, gt_infb, gt_minfb, hz, hz'] at hxy ⊢
            · refine callW_ms [.ro] ?_
              simp
              refine callX_of (w187 _ hx) (by simp) ?_
              simp
              refine callW_ms [.ro] ?_
              simp
              refine callX_of (w187 _ hy) (by simp) ?_
              simp
            · refine callW_ms [.ro] ?_
              simp
              refine callX_of (w187 _ hx) (by simp) ?_
              simp
              refine callW_ms [.ro] ?_
              simp
              refine callX_of (w187 _ hy) (by simp) ?_
              simp
          · simp [fne_self, feqb hx hy, fnez hx, fnez hy, feqz hx, feqz hy, inv_zero, inv_mzero, gt_infb, gt_minfb, hz, hz', hxy]
        · simp [fne_self, feqb hx hy, fnez hx, fnez hy, feqz hx, feqz hy, inv_zero, inv_mzero, gt_infb, gt_minfb, hz, hxy]
theorem w156 (x y : Nat) (hx : fOk x) (hy : fOk y) : Contract Try.prog false 156 [.ro, .ro] [.f x, .f y] [.b (decide (x = y))] [] := by
  refine mk_contract [] Try.func156 (c := Try.f156.body.get!) (by kernel_rfl) k156 r156 (of_decide_eq_true rfl) fun _ => ?_
  unfold c156; simp [fne_self, feqb hx hy, fnez hx, fnez hy, feqz hx, feqz hy, inv_zero, inv_mzero, gt_infb, gt_minfb]
  by_cases nx : isN x
  · by_cases ny : isN y
    · simp [fne_self, feqb hx hy, fnez hx, fnez hy, feqz hx, feqz hy, inv_zero, inv_mzero, gt_infb, gt_minfb, nx, ny]; rw [fOk_nan hx nx, fOk_nan hy ny]
    · have : ¬ x = y := by rintro rfl; exact ny nx
      simp [fne_self, feqb hx hy, fnez hx, fnez hy, feqz hx, feqz hy, inv_zero, inv_mzero, gt_infb, gt_minfb, nx, ny, this]
  · by_cases ny : isN y
    · have : ¬ x = y := by rintro rfl; exact nx ny
      simp [fne_self, feqb hx hy, fnez hx, fnez hy, feqz hx, feqz hy, inv_zero, inv_mzero, gt_infb, gt_minfb, nx, ny, this]
    · simp [fne_self, feqb hx hy, fnez hx, fnez hy, feqz hx, feqz hy, inv_zero, inv_mzero, gt_infb, gt_minfb, nx, ny]
      by_cases hz : rg x = 0
      · by_cases hz' : rg y = 0
        · rcases (rg_zero hx).1 hz with rfl | rfl <;> rcases (rg_zero hy).1 hz' with rfl | rfl <;> simp [fne_self, feqb hx hy, fnez hx, fnez hy, feqz hx, feqz hy, inv_zero, inv_mzero, gt_infb, gt_minfb, nx, ny, hz, hz']
        · have hz2 := fun h => hz' ((rg_zero hy).2 h)
          have h1 : ¬ y = 0 := fun h => hz2 (.inl h)
          have h2 : ¬ y = 9223372036854775808 := fun h => hz2 (.inr h)
          rcases (rg_zero hx).1 hz with rfl | rfl <;> simp [fne_self, feqb hx hy, fnez hx, fnez hy, feqz hx, feqz hy, inv_zero, inv_mzero, gt_infb, gt_minfb, h1, h2, hz, hz']
          all_goals exact fun _ => nx
      · have hz2 := fun h => hz ((rg_zero hx).2 h)
        have h1 : ¬ x = 0 := fun h => hz2 (.inl h)
        have h2 : ¬ x = 9223372036854775808 := fun h => hz2 (.inr h)
        simp [fne_self, feqb hx hy, fnez hx, fnez hy, feqz hx, feqz hy, inv_zero, inv_mzero, gt_infb, gt_minfb, h1, h2, hz]
        exact fun _ => nx

/-- A value: kind, whole number, two floats. -/
abbrev ValP := Int × Int × Nat × Nat
def valOkF (v : ValP) : Prop := fOk v.2.2.1 ∧ fOk v.2.2.2
@[simp] def vT (v : ValP) : List TV := [.i .i64 v.1, .i .i64 v.2.1, .f v.2.2.1, .f v.2.2.2]
@[simp] theorem fzL_vT (v : ValP) : fzL (vT v) = vT v := rfl
@[simp] theorem fzLL_vT (l : List (ValP)) : fzLL (l.map vT) = l.map vT := fzLL_map fzL_vT l
@[simp] theorem noROLL_vT (l : List (ValP)) : noROLL (l.map vT) = true := noROLL_map (fun _ => rfl) l
@[simp] theorem noref_vT (l : List (ValP)) : (l.map vT).all (·.all noref) = true := noref_map (fun _ => rfl) l
@[simp] theorem srcT_vT (H : Hp) (z : Nat) (l : List (ValP)) : srcT H (.sl false z (l.map vT)) = some (z, l.map vT, H, []) := by simp only [srcT, noref_vT, if_true]
def valV (v : ValP) : TV := .ag [.i .i64 v.1, .i .i64 v.2.1, .f v.2.2.1, .f v.2.2.2]
theorem val_ext {a b : ValP} : a = b ↔ a.1 = b.1 ∧ a.2.1 = b.2.1 ∧ a.2.2.1 = b.2.2.1 ∧ a.2.2.2 = b.2.2.2 := by
  obtain ⟨a1, a2, a3, a4⟩ := a; obtain ⟨b1, b2, b3, b4⟩ := b; simp
theorem w89 (v : ValP) : Contract Try.prog false 89 [.ro] [valV v] [valV v] [] := by
  refine mk_contract [] Try.func89 (c := Try.f89.body.get!) (by kernel_rfl) k89 r89 (of_decide_eq_true rfl) fun _ => ?_
  unfold c89; unfold valV; simp
theorem w95 (a b : ValP) (ha : valOkF a) (hb : valOkF b) : Contract Try.prog false 95 [.ro, .ro] [valV a, valV b] [.b (decide (a = b))] [] := by
  refine mk_contract [] Try.func95 (c := Try.f95.body.get!) (by kernel_rfl) k95 r95 (of_decide_eq_true rfl) fun _ => ?_
  unfold c95; unfold valV; simp
  rw [show decide (a = b) = decide (a.1 = b.1 ∧ a.2.1 = b.2.1 ∧ a.2.2.1 = b.2.2.1 ∧ a.2.2.2 = b.2.2.2) from decide_eq_decide.2 val_ext]
  by_cases h1 : a.1 = b.1
  · by_cases h2 : a.2.1 = b.2.1
    · simp [h1, h2]
      by_cases h3 : a.2.2.1 = b.2.2.1
      · refine callW_ms [.ro, .ro] ?_
        simp
        refine callX_of ((w156 _ _ ha.1 hb.1).t h3) (by simp) ?_
        simp
        by_cases h4 : a.2.2.2 = b.2.2.2
        · refine callW_ms [.ro, .ro] ?_
          simp
          refine callX_of ((w156 _ _ ha.2 hb.2).t h4) (by simp) ?_
          simp [h1, h2, h3, h4]
        · refine callW_ms [.ro, .ro] ?_
          simp
          refine callX_of ((w156 _ _ ha.2 hb.2).f h4) (by simp) ?_
          simp [h4]
      · refine callW_ms [.ro, .ro] ?_
        simp
        refine callX_of ((w156 _ _ ha.1 hb.1).f h3) (by simp) ?_
        simp [h3]
    · simp [val_ext, h1, h2]
  · simp [val_ext, h1]
theorem W156r (x : Nat) : Contract Try.prog false 156 [.ro, .ro] [.f x, .f x] [.b true] [] := by
  refine mk_contract [] Try.func156 (c := Try.f156.body.get!) (by kernel_rfl) k156 r156 (of_decide_eq_true rfl) fun _ => ?_
  unfold c156; simp [fne_self]
  by_cases nx : isN x
  · simp [nx, fne_self]
  · cases hz : FloatKind.f64.format.order x 0 == some .eq
    · simp [nx, fne_self, hz, feq_self nx]
    · simp [nx, fne_self, hz, feq_self nx]
theorem W95r (a : ValP) : Contract Try.prog false 95 [.ro, .ro] [valV a, valV a] [.b true] [] := by
  refine mk_contract [] Try.func95 (c := Try.f95.body.get!) (by kernel_rfl) k95 r95 (of_decide_eq_true rfl) fun _ => ?_
  unfold c95; unfold valV; simp
  refine callW_ms [.ro, .ro] ?_
  simp
  refine callX_of (W156r a.2.2.1) (by simp) ?_
  simp
  refine callW_ms [.ro, .ro] ?_
  simp
  refine callX_of (W156r a.2.2.2) (by simp) ?_
  simp

theorem w164 (a b : ValP) (ha : valOkF a) (hb : valOkF b) : Contract Try.prog false 164 [.ro, .ro] [valV a, valV b] [.b (decide (a = b))] [] := by
  refine mk_contract [] Try.func164 (c := Try.f164.body.get!) (by kernel_rfl) k164 r164 (of_decide_eq_true rfl) fun _ => ?_
  unfold c164; unfold valV; simp
  rw [show decide (a = b) = decide (a.1 = b.1 ∧ a.2.1 = b.2.1 ∧ a.2.2.1 = b.2.2.1 ∧ a.2.2.2 = b.2.2.2) from decide_eq_decide.2 val_ext]
  by_cases h1 : a.1 = b.1
  · by_cases h2 : a.2.1 = b.2.1
    · simp [h1, h2]
      by_cases h3 : a.2.2.1 = b.2.2.1
      · refine callW_ms [.ro, .ro] ?_
        simp
        refine callX_of ((w199 _ _ ha.1 hb.1).t h3) (by simp) ?_
        simp
        by_cases h4 : a.2.2.2 = b.2.2.2
        · refine callW_ms [.ro, .ro] ?_
          simp
          refine callX_of ((w199 _ _ ha.2 hb.2).t h4) (by simp) ?_
          simp [h1, h2, h3, h4]
        · refine callW_ms [.ro, .ro] ?_
          simp
          refine callX_of ((w199 _ _ ha.2 hb.2).f h4) (by simp) ?_
          simp [h4]
      · refine callW_ms [.ro, .ro] ?_
        simp
        refine callX_of ((w199 _ _ ha.1 hb.1).f h3) (by simp) ?_
        simp [h3]
    · simp [val_ext, h1, h2]
  · simp [val_ext, h1]
theorem w166 (a b : ValP) : Contract Try.prog false 166 [.ro, .ro] [valV a, valV b] [.b (decide (a = b))] [] := by
  refine mk_contract [] Try.func166 (c := Try.f166.body.get!) (by kernel_rfl) k166 r166 (of_decide_eq_true rfl) fun _ => ?_
  unfold c166; unfold valV; simp
  rw [show decide (a = b) = decide (a.1 = b.1 ∧ a.2.1 = b.2.1 ∧ a.2.2.1 = b.2.2.1 ∧ a.2.2.2 = b.2.2.2) from decide_eq_decide.2 val_ext]
  by_cases h1 : a.1 = b.1
  · by_cases h2 : a.2.1 = b.2.1
    · simp [h1, h2]
      by_cases h3 : a.2.2.1 = b.2.2.1
      · refine callW_ms [.ro, .ro] ?_
        simp
        refine callX_of ((w200 _ _).t h3) (by simp) ?_
        simp
        by_cases h4 : a.2.2.2 = b.2.2.2
        · refine callW_ms [.ro, .ro] ?_
          simp
          refine callX_of ((w200 _ _).t h4) (by simp) ?_
          simp [h1, h2, h3, h4]
        · refine callW_ms [.ro, .ro] ?_
          simp
          refine callX_of ((w200 _ _).f h4) (by simp) ?_
          simp [h4]
      · refine callW_ms [.ro, .ro] ?_
        simp
        refine callX_of ((w200 _ _).f h3) (by simp) ?_
        simp [h3]
    · simp [val_ext, h1, h2]
  · simp [val_ext, h1]
end Go.Proofs.YtmedelmfkciblaaT

/- Values: right, nought, pairs. -/
namespace Go.Proofs.YtmedelmfkciblaaT
set_option linter.unusedVariables false
set_option linter.unusedSimpArgs false
open Go

/- spec.ValOk -/
def c146 : TCode := (.seq (.ops [⟨(some 1), 3, .box 4 (.t 0), none, []⟩, ⟨(some 2), 4, .mv (.c (.b false)), none, []⟩])
  (.seq (.seq (.ops [⟨(some 3), 5, .faddr 0 1 (.t 1), none, []⟩, ⟨(some 4), 6, .load false 1 (.t 3), none, []⟩])
  (.block 0 (.seq (.ops [⟨(some 6), 8, .bin .eql (.t 4) (.c (.i .i64 1)), none, []⟩, ⟨(some 5), 7, .mv (.t 6), none, []⟩])
  (.cond (.t 5)
  (.seq (.ops [⟨(some 7), 9, .faddr 2 1 (.t 1), none, []⟩, ⟨(some 8), 10, .load false 1 (.t 7), none, []⟩, ⟨(some 9), 11, .call 187 [((.t 8), 0)], none, []⟩, ⟨(some 10), 12, .mv (.t 9), none, []⟩, ⟨(some 11), 13, .faddr 3 1 (.t 1), (some (10, true)), []⟩, ⟨(some 12), 14, .load false 1 (.t 11), (some (10, true)), []⟩, ⟨(some 13), 15, .call 187 [((.t 12), 0)], (some (10, true)), []⟩, ⟨(some 14), 16, .pick (.t 10) (.t 13) (.c (.b false)), none, []⟩, ⟨(some 2), 4, .mv (.t 14), none, []⟩])
  .ret)
  (.seq (.ops [⟨(some 16), 18, .bin .eql (.t 4) (.c (.i .i64 2)), none, []⟩, ⟨(some 15), 17, .mv (.t 16), none, []⟩])
  (.cond (.t 15)
  (.seq (.ops [⟨(some 17), 19, .faddr 1 1 (.t 1), none, []⟩, ⟨(some 18), 20, .load false 1 (.t 17), none, []⟩, ⟨(some 19), 21, .bin .eql (.t 18) (.c (.i .i64 0)), none, []⟩, ⟨(some 20), 22, .mv (.t 19), none, []⟩, ⟨(some 21), 23, .faddr 3 1 (.t 1), (some (20, true)), []⟩, ⟨(some 22), 24, .load false 1 (.t 21), (some (20, true)), []⟩, ⟨(some 23), 25, .call 187 [((.t 22), 0)], (some (20, true)), []⟩, ⟨(some 24), 26, .pick (.t 20) (.t 23) (.c (.b false)), none, []⟩, ⟨(some 2), 4, .mv (.t 24), none, []⟩])
  .ret)
  (.seq (.ops [⟨(some 26), 28, .bin .eql (.t 4) (.c (.i .i64 3)), none, []⟩, ⟨(some 25), 27, .mv (.t 26), none, []⟩])
  (.cond (.t 25)
  (.seq (.ops [⟨(some 27), 29, .faddr 1 1 (.t 1), none, []⟩, ⟨(some 28), 30, .load false 1 (.t 27), none, []⟩, ⟨(some 29), 31, .bin .eql (.t 28) (.c (.i .i64 0)), none, []⟩, ⟨(some 2), 4, .mv (.t 29), none, []⟩])
  .ret)
  (.seq (.ops [⟨(some 31), 33, .bin .eql (.t 4) (.c (.i .i64 4)), none, []⟩, ⟨(some 30), 32, .mv (.t 31), none, []⟩])
  (.cond (.t 30)
  (.seq (.ops [⟨(some 32), 34, .faddr 1 1 (.t 1), none, []⟩, ⟨(some 33), 35, .load false 1 (.t 32), none, []⟩, ⟨(some 34), 36, .bin .eql (.t 33) (.c (.i .i64 0)), none, []⟩, ⟨(some 35), 37, .mv (.t 34), none, []⟩, ⟨(some 36), 38, .faddr 1 1 (.t 1), (some (35, false)), []⟩, ⟨(some 37), 39, .load false 1 (.t 36), (some (35, false)), []⟩, ⟨(some 38), 40, .bin .eql (.t 37) (.c (.i .i64 1)), (some (35, false)), []⟩, ⟨(some 39), 41, .pick (.t 35) (.c (.b true)) (.t 38), none, []⟩, ⟨(some 40), 42, .mv (.t 39), none, []⟩, ⟨(some 41), 43, .faddr 2 1 (.t 1), (some (40, true)), []⟩, ⟨(some 42), 44, .load false 1 (.t 41), (some (40, true)), []⟩, ⟨(some 43), 45, .call 187 [((.t 42), 0)], (some (40, true)), []⟩, ⟨(some 44), 46, .pick (.t 40) (.t 43) (.c (.b false)), none, []⟩, ⟨(some 45), 47, .mv (.t 44), none, []⟩, ⟨(some 46), 48, .faddr 3 1 (.t 1), (some (45, true)), []⟩, ⟨(some 47), 49, .load false 1 (.t 46), (some (45, true)), []⟩, ⟨(some 48), 50, .call 187 [((.t 47), 0)], (some (45, true)), []⟩, ⟨(some 49), 51, .pick (.t 45) (.t 48) (.c (.b false)), none, []⟩, ⟨(some 2), 4, .mv (.t 49), none, []⟩])
  .ret)
  .skip))))))))))
  (.seq (.ops [⟨(some 2), 4, .mv (.c (.b false)), none, []⟩])
  .ret)))
theorem k146 : compCode Try.prog Try.f146.ntmps Try.f146.body.get! = some c146 := by kernel_rfl
theorem r146 : resTmps Try.prog Try.f146.results.toList = some [.tmp 2] := by kernel_rfl
/- impl.ValOk -/
def c224 : TCode := (.seq (.ops [⟨(some 1), 3, .box 4 (.t 0), none, []⟩, ⟨(some 2), 4, .mv (.c (.b false)), none, []⟩])
  (.seq (.seq (.ops [⟨(some 3), 5, .faddr 0 1 (.t 1), none, []⟩, ⟨(some 4), 6, .load false 1 (.t 3), none, []⟩])
  (.block 0 (.seq (.ops [⟨(some 6), 8, .bin .eql (.t 4) (.c (.i .i64 1)), none, []⟩, ⟨(some 5), 7, .mv (.t 6), none, []⟩])
  (.cond (.t 5)
  (.seq (.ops [⟨(some 7), 9, .faddr 2 1 (.t 1), none, []⟩, ⟨(some 8), 10, .load false 1 (.t 7), none, []⟩, ⟨(some 9), 11, .call 235 [((.t 8), 0)], none, []⟩, ⟨(some 10), 12, .mv (.t 9), none, []⟩, ⟨(some 11), 13, .faddr 3 1 (.t 1), (some (10, true)), []⟩, ⟨(some 12), 14, .load false 1 (.t 11), (some (10, true)), []⟩, ⟨(some 13), 15, .call 235 [((.t 12), 0)], (some (10, true)), []⟩, ⟨(some 14), 16, .pick (.t 10) (.t 13) (.c (.b false)), none, []⟩, ⟨(some 2), 4, .mv (.t 14), none, []⟩])
  .ret)
  (.seq (.ops [⟨(some 16), 18, .bin .eql (.t 4) (.c (.i .i64 2)), none, []⟩, ⟨(some 15), 17, .mv (.t 16), none, []⟩])
  (.cond (.t 15)
  (.seq (.ops [⟨(some 17), 19, .faddr 1 1 (.t 1), none, []⟩, ⟨(some 18), 20, .load false 1 (.t 17), none, []⟩, ⟨(some 19), 21, .bin .eql (.t 18) (.c (.i .i64 0)), none, []⟩, ⟨(some 20), 22, .mv (.t 19), none, []⟩, ⟨(some 21), 23, .faddr 3 1 (.t 1), (some (20, true)), []⟩, ⟨(some 22), 24, .load false 1 (.t 21), (some (20, true)), []⟩, ⟨(some 23), 25, .call 235 [((.t 22), 0)], (some (20, true)), []⟩, ⟨(some 24), 26, .pick (.t 20) (.t 23) (.c (.b false)), none, []⟩, ⟨(some 2), 4, .mv (.t 24), none, []⟩])
  .ret)
  (.seq (.ops [⟨(some 26), 28, .bin .eql (.t 4) (.c (.i .i64 3)), none, []⟩, ⟨(some 25), 27, .mv (.t 26), none, []⟩])
  (.cond (.t 25)
  (.seq (.ops [⟨(some 27), 29, .faddr 1 1 (.t 1), none, []⟩, ⟨(some 28), 30, .load false 1 (.t 27), none, []⟩, ⟨(some 29), 31, .bin .eql (.t 28) (.c (.i .i64 0)), none, []⟩, ⟨(some 2), 4, .mv (.t 29), none, []⟩])
  .ret)
  (.seq (.ops [⟨(some 31), 33, .bin .eql (.t 4) (.c (.i .i64 4)), none, []⟩, ⟨(some 30), 32, .mv (.t 31), none, []⟩])
  (.cond (.t 30)
  (.seq (.ops [⟨(some 32), 34, .faddr 1 1 (.t 1), none, []⟩, ⟨(some 33), 35, .load false 1 (.t 32), none, []⟩, ⟨(some 34), 36, .call 154 [((.t 33), 0), ((.c (.i .i64 0)), 0), ((.c (.i .i64 1)), 0)], none, []⟩, ⟨(some 35), 37, .mv (.t 34), none, []⟩, ⟨(some 36), 38, .faddr 2 1 (.t 1), (some (35, true)), []⟩, ⟨(some 37), 39, .load false 1 (.t 36), (some (35, true)), []⟩, ⟨(some 38), 40, .call 235 [((.t 37), 0)], (some (35, true)), []⟩, ⟨(some 39), 41, .pick (.t 35) (.t 38) (.c (.b false)), none, []⟩, ⟨(some 40), 42, .mv (.t 39), none, []⟩, ⟨(some 41), 43, .faddr 3 1 (.t 1), (some (40, true)), []⟩, ⟨(some 42), 44, .load false 1 (.t 41), (some (40, true)), []⟩, ⟨(some 43), 45, .call 235 [((.t 42), 0)], (some (40, true)), []⟩, ⟨(some 44), 46, .pick (.t 40) (.t 43) (.c (.b false)), none, []⟩, ⟨(some 2), 4, .mv (.t 44), none, []⟩])
  .ret)
  .skip))))))))))
  (.seq (.ops [⟨(some 2), 4, .mv (.c (.b false)), none, []⟩])
  .ret)))
theorem k224 : compCode Try.prog Try.f224.ntmps Try.f224.body.get! = some c224 := by kernel_rfl
theorem r224 : resTmps Try.prog Try.f224.results.toList = some [.tmp 2] := by kernel_rfl
/- spec.ValZero -/
def c124 : TCode := (.seq (.ops [⟨(some 2), 4, .box 4 (.c (.ag [(.i .i64 0), (.i .i64 0), (.f 0), (.f 0)])), none, []⟩])
  (.seq (.seq (.ops [⟨(some 3), 5, .mv (.t 0), none, []⟩, ⟨(some 4), 6, .call 87 [((.t 3), 0), ((.c (.i .i64 1)), 0), ((.c (.i .i64 4)), 0)], none, []⟩, ⟨(some 5), 7, .un .not (.t 4), none, []⟩])
  (.cond (.t 5)
  (.seq (.ops [⟨(some 6), 8, .build [(.i .i64 0), (.i .i64 0), (.f 0), (.f 0)] [], none, []⟩, ⟨none, 1002001, .store 4 (.t 2) (.t 6), none, []⟩])
  .ret)
  .skip))
  (.seq (.ops [⟨(some 7), 9, .mv (.t 0), none, []⟩, ⟨(some 8), 10, .build [(.i .i64 0), (.i .i64 0), (.f 0), (.f 0)] [(0, 1, (.t 7))], none, []⟩, ⟨none, 1003002, .store 4 (.t 2) (.t 8), none, []⟩])
  .ret)))
theorem k124 : compCode Try.prog Try.f124.ntmps Try.f124.body.get! = some c124 := by kernel_rfl
theorem r124 : resTmps Try.prog Try.f124.results.toList = some [.cell 2 true 4] := by kernel_rfl
/- impl.ValZero -/
def c125 : TCode := (.seq (.ops [⟨(some 2), 4, .box 4 (.c (.ag [(.i .i64 0), (.i .i64 0), (.f 0), (.f 0)])), none, []⟩])
  (.seq (.seq (.ops [⟨(some 3), 5, .mv (.t 0), none, []⟩, ⟨(some 4), 6, .call 151 [((.t 3), 0)], none, []⟩, ⟨(some 5), 7, .un .not (.t 4), none, []⟩])
  (.cond (.t 5)
  (.seq (.ops [⟨(some 6), 8, .build [(.i .i64 0), (.i .i64 0), (.f 0), (.f 0)] [], none, []⟩, ⟨none, 1002001, .store 4 (.t 2) (.t 6), none, []⟩])
  .ret)
  .skip))
  (.seq (.ops [⟨(some 7), 9, .mv (.t 0), none, []⟩, ⟨(some 8), 10, .build [(.i .i64 0), (.i .i64 0), (.f 0), (.f 0)] [(0, 1, (.t 7))], none, []⟩, ⟨none, 1003002, .store 4 (.t 2) (.t 8), none, []⟩])
  .ret)))
theorem k125 : compCode Try.prog Try.f125.ntmps Try.f125.body.get! = some c125 := by kernel_rfl
theorem r125 : resTmps Try.prog Try.f125.results.toList = some [.cell 2 true 4] := by kernel_rfl

def ValOkP (v : ValP) : Prop := (v.1 = 1 ∧ v.2.2.1 = 0 ∧ v.2.2.2 = 0) ∨ (v.1 = 2 ∧ v.2.1 = 0 ∧ v.2.2.2 = 0) ∨ (v.1 = 3 ∧ v.2.1 = 0) ∨ (v.1 = 4 ∧ (v.2.1 = 0 ∨ v.2.1 = 1) ∧ v.2.2.1 = 0 ∧ v.2.2.2 = 0)
instance (v : ValP) : Decidable (ValOkP v) := by unfold ValOkP; infer_instance
theorem w146 (v : ValP) (hv : valOkF v) : Contract Try.prog false 146 [.ro] [valV v] [.b (decide (ValOkP v))] [] := by
  refine mk_contract [] Try.func146 (c := Try.f146.body.get!) (by kernel_rfl) k146 r146 (of_decide_eq_true rfl) fun _ => ?_
  unfold c146; unfold valV ValOkP; simp
  by_cases k1 : v.1 = 1
  · simp [k1]
    by_cases h1 : v.2.2.1 = 0
    · refine callW_ms [.ro] ?_
      simp
      refine callX_of ((w187 _ hv.1).t h1) (by simp) ?_
      simp
      refine callW_ms [.ro] ?_
      simp
      refine callX_of (w187 _ hv.2) (by simp) ?_
      simp [h1]
    · refine callW_ms [.ro] ?_
      simp
      refine callX_of ((w187 _ hv.1).f h1) (by simp) ?_
      simp [h1]
  by_cases k2 : v.1 = 2
  · simp [k2]
    by_cases h1 : v.2.1 = 0
    · simp [h1]
      refine callW_ms [.ro] ?_
      simp
      refine callX_of (w187 _ hv.2) (by simp) ?_
      simp [h1]
    · simp [h1]
  by_cases k3 : v.1 = 3
  · simp [k3]
  by_cases k4 : v.1 = 4
  · simp [k4]
    by_cases hi : v.2.1 = 0
    · simp [hi]
      by_cases h1 : v.2.2.1 = 0
      · refine callW_ms [.ro] ?_
        simp
        refine callX_of ((w187 _ hv.1).t h1) (by simp) ?_
        simp
        refine callW_ms [.ro] ?_
        simp
        refine callX_of (w187 _ hv.2) (by simp) ?_
        simp [h1]
      · refine callW_ms [.ro] ?_
        simp
        refine callX_of ((w187 _ hv.1).f h1) (by simp) ?_
        simp [h1]
    · by_cases hi1 : v.2.1 = 1
      · simp [hi, hi1]
        by_cases h1 : v.2.2.1 = 0
        · refine callW_ms [.ro] ?_
          simp
          refine callX_of ((w187 _ hv.1).t h1) (by simp) ?_
          simp
          refine callW_ms [.ro] ?_
          simp
          refine callX_of (w187 _ hv.2) (by simp) ?_
          simp [h1]
        · refine callW_ms [.ro] ?_
          simp
          refine callX_of ((w187 _ hv.1).f h1) (by simp) ?_
          simp [h1]
      · simp [hi, hi1]
  simp [k1, k2, k3, k4]
theorem w224 (v : ValP) : Contract Try.prog false 224 [.ro] [valV v] [.b (decide (ValOkP v))] [] := by
  refine mk_contract [] Try.func224 (c := Try.f224.body.get!) (by kernel_rfl) k224 r224 (of_decide_eq_true rfl) fun _ => ?_
  unfold c224; unfold valV ValOkP; simp
  by_cases k1 : v.1 = 1
  · simp [k1]
    by_cases h1 : v.2.2.1 = 0
    · refine callW_ms [.ro] ?_
      simp
      refine callX_of ((w235 _).t h1) (by simp) ?_
      simp
      refine callW_ms [.ro] ?_
      simp
      refine callX_of (w235 v.2.2.2) (by simp) ?_
      simp [h1]
    · refine callW_ms [.ro] ?_
      simp
      refine callX_of ((w235 _).f h1) (by simp) ?_
      simp [h1]
  by_cases k2 : v.1 = 2
  · simp [k2]
    by_cases h1 : v.2.1 = 0
    · simp [h1]
      refine callW_ms [.ro] ?_
      simp
      refine callX_of (w235 v.2.2.2) (by simp) ?_
      simp [h1]
    · simp [h1]
  by_cases k3 : v.1 = 3
  · simp [k3]
  by_cases k4 : v.1 = 4
  · simp [k4]
    by_cases hi : 0 ≤ v.2.1 ∧ v.2.1 ≤ 1
    · have hi2 : v.2.1 = 0 ∨ v.2.1 = 1 := by omega
      refine callW_ms [.ro, .ro, .ro] ?_
      simp
      refine callX_of ((w154 v.2.1 0 1).t hi) (by simp) ?_
      simp
      by_cases h1 : v.2.2.1 = 0
      · refine callW_ms [.ro] ?_
        simp
        refine callX_of ((w235 _).t h1) (by simp) ?_
        simp
        refine callW_ms [.ro] ?_
        simp
        refine callX_of (w235 v.2.2.2) (by simp) ?_
        simp [h1, hi2]
      · refine callW_ms [.ro] ?_
        simp
        refine callX_of ((w235 _).f h1) (by simp) ?_
        simp [h1]
    · have hi2 : ¬ (v.2.1 = 0 ∨ v.2.1 = 1) := by omega
      refine callW_ms [.ro, .ro, .ro] ?_
      simp
      refine callX_of ((w154 v.2.1 0 1).f hi) (by simp) ?_
      simp [hi2]
  simp [k1, k2, k3, k4]
def zeroV (k : Int) : ValP := if 1 ≤ k ∧ k ≤ 4 then (k, 0, 0, 0) else (0, 0, 0, 0)
theorem zeroV_ok (k : Int) : valOkF (zeroV k) := by unfold zeroV; split <;> exact ⟨fOk_zero, fOk_zero⟩
theorem w124 (k : Int) : Contract Try.prog false 124 [.ro] [.i .i64 k] [valV (zeroV k)] [] := by
  refine mk_contract [] Try.func124 (c := Try.f124.body.get!) (by kernel_rfl) k124 r124 (of_decide_eq_true rfl) fun _ => ?_
  unfold c124; unfold valV zeroV; simp
  by_cases h : 1 ≤ k ∧ k ≤ 4
  · refine callW_ms [.ro, .ro, .ro] ?_
    simp
    refine callX_of ((w87 k 1 4).t h) (by simp) ?_
    simp [h]
  · refine callW_ms [.ro, .ro, .ro] ?_
    simp
    refine callX_of ((w87 k 1 4).f h) (by simp) ?_
    simp [h]
theorem w125 (k : Int) : Contract Try.prog false 125 [.ro] [.i .i64 k] [valV (zeroV k)] [] := by
  refine mk_contract [] Try.func125 (c := Try.f125.body.get!) (by kernel_rfl) k125 r125 (of_decide_eq_true rfl) fun _ => ?_
  unfold c125; unfold valV zeroV; simp
  by_cases h : 1 ≤ k ∧ k ≤ 4
  · refine callW_ms [.ro] ?_
    simp
    refine callX_of ((w151 k).t h) (by simp) ?_
    simp [h]
  · refine callW_ms [.ro] ?_
    simp
    refine callX_of ((w151 k).f h) (by simp) ?_
    simp [h]
def pairV (a b : ValP) : ValP × Bool := if ValOkP a ∧ ValOkP b ∧ a.1 = 2 ∧ b.1 = 2 then ((3, 0, a.2.2.1, b.2.2.1), true) else ((0, 0, 0, 0), false)
theorem pairV_ok {a b : ValP} (ha : valOkF a) (hb : valOkF b) : valOkF (pairV a b).1 := by
  unfold pairV; split
  · exact ⟨ha.1, hb.1⟩
  · exact ⟨fOk_zero, fOk_zero⟩
end Go.Proofs.YtmedelmfkciblaaT

/- Rows of values. -/
namespace Go.Proofs.YtmedelmfkciblaaT
set_option linter.unusedVariables false
set_option linter.unusedSimpArgs false
open Go

/- laws.toValS -/
def c103 : TCode := (.seq (.ops [⟨(some 2), 4, .mv (.c (.sl true 4 [])), none, []⟩])
  (.seq (.ops [⟨(some 5), 7, .mv (.t 0), none, []⟩, ⟨(some 6), 8, .len false (.t 5), none, []⟩, ⟨(some 7), 9, .mkslice 4 32 [(.i .i64 0), (.i .i64 0), (.f 0), (.f 0)] (.t 6) (.t 6), none, []⟩, ⟨(some 3), 5, .mv (.t 7), none, []⟩])
  (.seq (.seq (.ops [⟨(some 4), 6, .mv (.c (.i .i64 0)), none, []⟩])
  (.block 0 (.loop (.seq (.seq (.ops [⟨(some 8), 10, .mv (.t 4), none, []⟩, ⟨(some 9), 11, .mv (.t 0), none, []⟩, ⟨(some 10), 12, .len false (.t 9), none, []⟩, ⟨(some 11), 13, .bin .lss (.t 8) (.t 10), none, []⟩])
  (.cond (.t 11)
  .skip
  (.exit 0)))
  (.seq (.block 1 (.ops [⟨(some 14), 16, .mv (.t 3), none, []⟩, ⟨(some 15), 17, .mv (.t 4), none, []⟩, ⟨(some 16), 18, .mv (.t 0), none, []⟩, ⟨(some 17), 19, .mv (.t 4), none, []⟩, ⟨(some 18), 20, .iaddr 4 (.t 16) (.t 17), none, []⟩, ⟨(some 19), 21, .load true 4 (.t 18), none, []⟩, ⟨(some 20), 22, .call 89 [((.t 19), 0)], none, []⟩, ⟨(some 21), 23, .iaddr 4 (.t 14) (.t 15), none, []⟩, ⟨none, 1005008, .store 4 (.t 21) (.t 20), none, []⟩]))
  (.ops [⟨(some 12), 14, .mv (.t 4), none, []⟩, ⟨(some 13), 15, .bin .add (.t 12) (.c (.i .i64 1)), none, []⟩, ⟨(some 4), 6, .mv (.t 13), none, []⟩]))))))
  (.seq (.ops [⟨(some 22), 24, .mv (.t 3), none, []⟩, ⟨(some 2), 4, .mv (.t 22), none, []⟩])
  .ret))))
theorem k103 : compCode Try.prog Try.f103.ntmps Try.f103.body.get! = some c103 := by kernel_rfl
theorem r103 : resTmps Try.prog Try.f103.results.toList = some [.tmp 2] := by kernel_rfl
/- laws.szValS -/
def c99 : TCode := (.seq (.ops [⟨(some 4), 6, .mv (.c (.i .i64 0)), none, []⟩])
  (.seq (.ops [⟨(some 5), 7, .mv (.t 1), none, []⟩, ⟨(some 6), 8, .mv (.t 0), none, []⟩, ⟨(some 7), 9, .len false (.t 6), none, []⟩, ⟨(some 8), 10, .bin .sub (.t 5) (.t 7), none, []⟩, ⟨(some 1), 3, .mv (.t 8), none, []⟩])
  (.seq (.seq (.ops [⟨(some 9), 11, .mv (.t 1), none, []⟩, ⟨(some 10), 12, .bin .lss (.t 9) (.c (.i .i64 0)), none, []⟩])
  (.cond (.t 10)
  (.seq (.ops [⟨(some 4), 6, .mv (.c (.i .i64 (-1))), none, []⟩])
  .ret)
  .skip))
  (.seq (.ops [⟨(some 11), 13, .mv (.t 1), none, []⟩, ⟨(some 4), 6, .mv (.t 11), none, []⟩])
  .ret))))
theorem k99 : compCode Try.prog Try.f99.ntmps Try.f99.body.get! = some c99 := by kernel_rfl
theorem r99 : resTmps Try.prog Try.f99.results.toList = some [.tmp 4] := by kernel_rfl
/- laws.eqValS -/
def c110 : TCode := (.seq (.ops [⟨(some 4), 6, .mv (.c (.b false)), none, []⟩])
  (.seq (.seq (.ops [⟨(some 6), 8, .mv (.t 0), none, []⟩, ⟨(some 7), 9, .len false (.t 6), none, []⟩, ⟨(some 8), 10, .mv (.t 1), none, []⟩, ⟨(some 9), 11, .len false (.t 8), none, []⟩, ⟨(some 10), 12, .bin .neq (.t 7) (.t 9), none, []⟩])
  (.cond (.t 10)
  (.seq (.ops [⟨(some 4), 6, .mv (.c (.b false)), none, []⟩])
  .ret)
  .skip))
  (.seq (.seq (.ops [⟨(some 5), 7, .mv (.c (.i .i64 0)), none, []⟩])
  (.block 0 (.loop (.seq (.seq (.ops [⟨(some 11), 13, .mv (.t 5), none, []⟩, ⟨(some 12), 14, .mv (.t 0), none, []⟩, ⟨(some 13), 15, .len false (.t 12), none, []⟩, ⟨(some 14), 16, .bin .lss (.t 11) (.t 13), none, []⟩])
  (.cond (.t 14)
  .skip
  (.exit 0)))
  (.seq (.block 1 (.seq (.draw [⟨(some 17), 19, .mv (.t 0), none, []⟩, ⟨(some 18), 20, .mv (.t 5), none, []⟩, ⟨(some 19), 21, .iaddr 4 (.t 17) (.t 18), none, []⟩, ⟨(some 20), 22, .load true 4 (.t 19), none, []⟩, ⟨(some 21), 23, .mv (.t 1), none, []⟩, ⟨(some 22), 24, .mv (.t 5), none, []⟩, ⟨(some 23), 25, .iaddr 4 (.t 21) (.t 22), none, []⟩, ⟨(some 24), 26, .load true 4 (.t 23), none, []⟩, ⟨(some 25), 27, .call 95 [((.t 20), 0), ((.t 24), 0)], none, []⟩, ⟨(some 26), 28, .un .not (.t 25), none, []⟩])
  (.cond (.t 26)
  (.seq (.ops [⟨(some 4), 6, .mv (.c (.b false)), none, []⟩])
  .ret)
  .skip)))
  (.ops [⟨(some 15), 17, .mv (.t 5), none, []⟩, ⟨(some 16), 18, .bin .add (.t 15) (.c (.i .i64 1)), none, []⟩, ⟨(some 5), 7, .mv (.t 16), none, []⟩]))))))
  (.seq (.ops [⟨(some 4), 6, .mv (.c (.b true)), none, []⟩])
  .ret))))
theorem k110 : compCode Try.prog Try.f110.ntmps Try.f110.body.get! = some c110 := by kernel_rfl
theorem r110 : resTmps Try.prog Try.f110.results.toList = some [.tmp 4] := by kernel_rfl
/- laws.markValS -/
def c113 : TCode := (.seq (.ops [⟨(some 4), 6, .mv (.c (.i .i64 0)), none, []⟩])
  (.seq (.seq (.ops [⟨(some 5), 7, .mv (.c (.i .i64 0)), none, []⟩])
  (.block 0 (.loop (.seq (.seq (.ops [⟨(some 6), 8, .mv (.t 5), none, []⟩, ⟨(some 7), 9, .mv (.t 0), none, []⟩, ⟨(some 8), 10, .len false (.t 7), none, []⟩, ⟨(some 9), 11, .bin .lss (.t 6) (.t 8), none, []⟩])
  (.cond (.t 9)
  .skip
  (.exit 0)))
  (.seq (.block 1 (.seq (.ops [⟨(some 12), 14, .mv (.t 0), none, []⟩, ⟨(some 13), 15, .mv (.t 5), none, []⟩, ⟨(some 14), 16, .mv (.t 1), none, []⟩, ⟨(some 15), 17, .iaddr 4 (.t 12) (.t 13), none, []⟩, ⟨(some 16), 18, .faddr 0 1 (.t 15), none, []⟩, ⟨none, 1004005, .store 1 (.t 16) (.t 14), none, []⟩])
  (.seq (.ops [⟨(some 17), 19, .mv (.t 1), none, []⟩, ⟨(some 18), 20, .bin .add (.t 17) (.c (.i .i64 1)), none, []⟩, ⟨(some 1), 3, .mv (.t 18), none, []⟩])
  (.seq (.ops [⟨(some 19), 21, .mv (.t 0), none, []⟩, ⟨(some 20), 22, .mv (.t 5), none, []⟩, ⟨(some 21), 23, .mv (.t 1), none, []⟩, ⟨(some 22), 24, .iaddr 4 (.t 19) (.t 20), none, []⟩, ⟨(some 23), 25, .faddr 1 1 (.t 22), none, []⟩, ⟨none, 1006005, .store 1 (.t 23) (.t 21), none, []⟩])
  (.seq (.ops [⟨(some 24), 26, .mv (.t 1), none, []⟩, ⟨(some 25), 27, .bin .add (.t 24) (.c (.i .i64 1)), none, []⟩, ⟨(some 1), 3, .mv (.t 25), none, []⟩])
  (.seq (.ops [⟨(some 26), 28, .mv (.t 0), none, []⟩, ⟨(some 27), 29, .mv (.t 5), none, []⟩, ⟨(some 28), 30, .mv (.t 1), none, []⟩, ⟨(some 29), 31, .toF (.t 28), none, []⟩, ⟨(some 30), 32, .iaddr 4 (.t 26) (.t 27), none, []⟩, ⟨(some 31), 33, .faddr 2 1 (.t 30), none, []⟩, ⟨none, 1008006, .store 1 (.t 31) (.t 29), none, []⟩])
  (.seq (.ops [⟨(some 32), 34, .mv (.t 1), none, []⟩, ⟨(some 33), 35, .bin .add (.t 32) (.c (.i .i64 1)), none, []⟩, ⟨(some 1), 3, .mv (.t 33), none, []⟩])
  (.seq (.ops [⟨(some 34), 36, .mv (.t 0), none, []⟩, ⟨(some 35), 37, .mv (.t 5), none, []⟩, ⟨(some 36), 38, .mv (.t 1), none, []⟩, ⟨(some 37), 39, .toF (.t 36), none, []⟩, ⟨(some 38), 40, .iaddr 4 (.t 34) (.t 35), none, []⟩, ⟨(some 39), 41, .faddr 3 1 (.t 38), none, []⟩, ⟨none, 1010006, .store 1 (.t 39) (.t 37), none, []⟩])
  (.ops [⟨(some 40), 42, .mv (.t 1), none, []⟩, ⟨(some 41), 43, .bin .add (.t 40) (.c (.i .i64 1)), none, []⟩, ⟨(some 1), 3, .mv (.t 41), none, []⟩])))))))))
  (.ops [⟨(some 10), 12, .mv (.t 5), none, []⟩, ⟨(some 11), 13, .bin .add (.t 10) (.c (.i .i64 1)), none, []⟩, ⟨(some 5), 7, .mv (.t 11), none, []⟩]))))))
  (.seq (.ops [⟨(some 42), 44, .mv (.t 1), none, []⟩, ⟨(some 4), 6, .mv (.t 42), none, []⟩])
  .ret)))
theorem k113 : compCode Try.prog Try.f113.ntmps Try.f113.body.get! = some c113 := by kernel_rfl
theorem r113 : resTmps Try.prog Try.f113.results.toList = some [.tmp 4] := by kernel_rfl
/- laws.heldValS -/
def c129 : TCode := (.seq (.ops [⟨(some 4), 6, .mv (.c (.i .i64 0)), none, []⟩])
  (.seq (.seq (.ops [⟨(some 5), 7, .mv (.c (.i .i64 0)), none, []⟩])
  (.block 0 (.loop (.seq (.seq (.ops [⟨(some 6), 8, .mv (.t 5), none, []⟩, ⟨(some 7), 9, .mv (.t 0), none, []⟩, ⟨(some 8), 10, .len false (.t 7), none, []⟩, ⟨(some 9), 11, .bin .lss (.t 6) (.t 8), none, []⟩])
  (.cond (.t 9)
  .skip
  (.exit 0)))
  (.seq (.block 1 (.seq (.seq (.ops [⟨(some 12), 14, .mv (.t 0), none, []⟩, ⟨(some 13), 15, .mv (.t 5), none, []⟩, ⟨(some 14), 16, .iaddr 4 (.t 12) (.t 13), none, []⟩, ⟨(some 15), 17, .faddr 0 1 (.t 14), none, []⟩, ⟨(some 16), 18, .load false 1 (.t 15), none, []⟩, ⟨(some 17), 19, .mv (.t 1), none, []⟩, ⟨(some 18), 20, .bin .neq (.t 16) (.t 17), none, []⟩])
  (.cond (.t 18)
  (.seq (.ops [⟨(some 4), 6, .mv (.c (.i .i64 (-1))), none, []⟩])
  .ret)
  .skip))
  (.seq (.ops [⟨(some 19), 21, .mv (.t 1), none, []⟩, ⟨(some 20), 22, .bin .add (.t 19) (.c (.i .i64 1)), none, []⟩, ⟨(some 1), 3, .mv (.t 20), none, []⟩])
  (.seq (.seq (.ops [⟨(some 21), 23, .mv (.t 0), none, []⟩, ⟨(some 22), 24, .mv (.t 5), none, []⟩, ⟨(some 23), 25, .iaddr 4 (.t 21) (.t 22), none, []⟩, ⟨(some 24), 26, .faddr 1 1 (.t 23), none, []⟩, ⟨(some 25), 27, .load false 1 (.t 24), none, []⟩, ⟨(some 26), 28, .mv (.t 1), none, []⟩, ⟨(some 27), 29, .bin .neq (.t 25) (.t 26), none, []⟩])
  (.cond (.t 27)
  (.seq (.ops [⟨(some 4), 6, .mv (.c (.i .i64 (-1))), none, []⟩])
  .ret)
  .skip))
  (.seq (.ops [⟨(some 28), 30, .mv (.t 1), none, []⟩, ⟨(some 29), 31, .bin .add (.t 28) (.c (.i .i64 1)), none, []⟩, ⟨(some 1), 3, .mv (.t 29), none, []⟩])
  (.seq (.seq (.ops [⟨(some 30), 32, .mv (.t 0), none, []⟩, ⟨(some 31), 33, .mv (.t 5), none, []⟩, ⟨(some 32), 34, .iaddr 4 (.t 30) (.t 31), none, []⟩, ⟨(some 33), 35, .faddr 2 1 (.t 32), none, []⟩, ⟨(some 34), 36, .load false 1 (.t 33), none, []⟩, ⟨(some 35), 37, .mv (.t 1), none, []⟩, ⟨(some 36), 38, .toF (.t 35), none, []⟩, ⟨(some 37), 39, .bin .neq (.t 34) (.t 36), none, []⟩])
  (.cond (.t 37)
  (.seq (.ops [⟨(some 4), 6, .mv (.c (.i .i64 (-1))), none, []⟩])
  .ret)
  .skip))
  (.seq (.ops [⟨(some 38), 40, .mv (.t 1), none, []⟩, ⟨(some 39), 41, .bin .add (.t 38) (.c (.i .i64 1)), none, []⟩, ⟨(some 1), 3, .mv (.t 39), none, []⟩])
  (.seq (.seq (.ops [⟨(some 40), 42, .mv (.t 0), none, []⟩, ⟨(some 41), 43, .mv (.t 5), none, []⟩, ⟨(some 42), 44, .iaddr 4 (.t 40) (.t 41), none, []⟩, ⟨(some 43), 45, .faddr 3 1 (.t 42), none, []⟩, ⟨(some 44), 46, .load false 1 (.t 43), none, []⟩, ⟨(some 45), 47, .mv (.t 1), none, []⟩, ⟨(some 46), 48, .toF (.t 45), none, []⟩, ⟨(some 47), 49, .bin .neq (.t 44) (.t 46), none, []⟩])
  (.cond (.t 47)
  (.seq (.ops [⟨(some 4), 6, .mv (.c (.i .i64 (-1))), none, []⟩])
  .ret)
  .skip))
  (.ops [⟨(some 48), 50, .mv (.t 1), none, []⟩, ⟨(some 49), 51, .bin .add (.t 48) (.c (.i .i64 1)), none, []⟩, ⟨(some 1), 3, .mv (.t 49), none, []⟩])))))))))
  (.ops [⟨(some 10), 12, .mv (.t 5), none, []⟩, ⟨(some 11), 13, .bin .add (.t 10) (.c (.i .i64 1)), none, []⟩, ⟨(some 5), 7, .mv (.t 11), none, []⟩]))))))
  (.seq (.ops [⟨(some 50), 52, .mv (.t 1), none, []⟩, ⟨(some 4), 6, .mv (.t 50), none, []⟩])
  .ret)))
theorem k129 : compCode Try.prog Try.f129.ntmps Try.f129.body.get! = some c129 := by kernel_rfl
theorem r129 : resTmps Try.prog Try.f129.results.toList = some [.tmp 4] := by kernel_rfl

theorem w103 (l : List ValP) (hl : l.length ≤ 2^40) : Contract Try.prog false 103 [.ro] [.sl false 4 (l.map vT)] [.sl true 4 (l.map vT)] [] := by
  refine mk_contract [] Try.func103 (c := Try.f103.body.get!) (by kernel_rfl) k103 r103 (of_decide_eq_true rfl) fun _ => ?_
  unfold c103; simp
  refine ⟨by omega, ?_⟩
  refine twp_for l.length (fun j s => s.t 0 = .sl false 4 (l.map vT) ∧ s.t 3 = .rf [(9, 0)] 0 l.length ∧ s.t 4 = .i .i64 j ∧ s.H = lk [(1, []), (9, [.sl true 4 ((l.map vT).take j ++ List.replicate (l.length - j) [.i .i64 0, .i .i64 0, .f 0, .f 0])])]) [] (by simp) ?_ ?_
  · simp
  · rintro j s hj ⟨q0, q3, q4, qH⟩
    rw [nf_of qH]
    simp [q0, q3, q4]
    refine ⟨fun hlt => ?_, fun hge => ?_⟩
    · have hw : IntKind.i64.wrap (j + 1) = j + 1 := wrap_id (by omega) (by omega)
      obtain ⟨x, hx⟩ := get_some hlt
      have hmin : min j l.length = j := by omega
      simp [hx, hw, q0, q3, q4]
      refine callW_ms [.ro] ?_
      simp [valV]
      refine callX_of (w89 x) (by simp) ?_
      simp [valV, hw, q0, q3, q4, rep_at hlt, mapsnoc hx, hmin]
      omega
    · obtain rfl : j = l.length := by omega
      simp [q0, q3, q4]
theorem w99 (l : List ValP) (n : Int) (hl : l.length < 2^63) (hn : n < 2^62) (hn0 : 0 ≤ n) : Contract Try.prog false 99 [.ro, .ro] [.sl false 4 (l.map vT), .i .i64 n] [.i .i64 (szF n l.length)] [] := by
  refine mk_contract [] Try.func99 (c := Try.f99.body.get!) (by kernel_rfl) k99 r99 (of_decide_eq_true rfl) fun _ => ?_
  have hw : IntKind.i64.wrap (n - l.length) = n - l.length := wrap_id (by omega) (by omega)
  unfold c99; unfold szF; simp [hw]
  omega
theorem w110 (a : List ValP) (ha : a.length ≤ 2^40) : Contract Try.prog false 110 [.ro, .ro] [.sl false 4 (a.map vT), .sl false 4 (a.map vT)] [.b true] [] := by
  refine mk_contract [] Try.func110 (c := Try.f110.body.get!) (by kernel_rfl) k110 r110 (of_decide_eq_true rfl) fun _ => ?_
  unfold c110; simp
  refine twp_for a.length (fun j s => s.t 0 = .sl false 4 (a.map vT) ∧ s.t 1 = .sl false 4 (a.map vT) ∧ s.t 5 = .i .i64 j ∧ s.H = lk [(1, [])]) [] (by simp) ?_ ?_
  · simp
  · rintro j s hj ⟨q0, q1, q5, qH⟩
    rw [nf_of qH]
    simp [q0, q1, q5]
    intro hlt
    have hw : IntKind.i64.wrap (j + 1) = j + 1 := wrap_id (by omega) (by omega)
    obtain ⟨x, hx⟩ := get_some hlt
    simp [hx, hw, q0, q1, q5]
    refine callW_ms [.ro, .ro] ?_
    simp
    refine callX_of (W95r x) (by simp [valV]) ?_
    simp [hw, q0, q1, q5]
    exact hlt
def mkV (k : Int) : ValP := (k, k + 1, flI (k + 2), flI (k + 3))
theorem w113 (l : List ValP) (k : Int) (hl : l.length ≤ 2^36) (hk : 0 ≤ k) (hk2 : k ≤ 2^40) : Contract Try.prog false 113 [.own, .ro] [.sl true 4 (l.map vT), .i .i64 k] [.i .i64 (k + 4 * l.length)] [some (.sl true 4 ((mkL 4 mkV k l.length).map vT))] := by
  refine mk_contract [some [(1, 0)]] Try.func113 (c := Try.f113.body.get!) (by kernel_rfl) k113 r113 (of_decide_eq_true rfl) fun _ => ?_
  unfold c113; simp
  refine twp_for l.length (fun j s => s.t 0 = .rf [(1, 0)] 0 l.length ∧ s.t 1 = .i .i64 (k + 4 * j) ∧ s.t 5 = .i .i64 j ∧ s.H = lk [(1, [.sl true 4 ((mkL 4 mkV k j).map vT ++ (l.map vT).drop j)])]) [] (by simp) ?_ ?_
  · simp
  · rintro j s hj ⟨q0, q1, q5, qH⟩
    rw [nf_of qH]
    simp [q0, q1, q5]
    refine ⟨fun hlt => ?_, fun hge => ?_⟩
    · have hw : IntKind.i64.wrap (j + 1) = j + 1 := wrap_id (by omega) (by omega)
      obtain ⟨x, hx⟩ := get_some hlt
      have hw1 : IntKind.i64.wrap (k + 4 * j + 1) = k + 4 * j + 1 := wrap_id (by omega) (by omega)
      have hw2 : IntKind.i64.wrap (k + 4 * j + 1 + 1) = k + 4 * j + 2 := by rw [wrap_id (by omega) (by omega)]; omega
      have hw3 : IntKind.i64.wrap (k + 4 * j + 2 + 1) = k + 4 * j + 3 := by rw [wrap_id (by omega) (by omega)]; omega
      have hw4 : IntKind.i64.wrap (k + 4 * j + 3 + 1) = k + 4 * (j + 1) := by rw [wrap_id (by omega) (by omega)]; omega
      have hf : ∀ n, canon (FloatKind.f64.nearest n) = flI n := fun _ => rfl
      simp [hw, hw1, hw2, hw3, hw4, hf, q0, q1, q5, drop_at hx, mkV]
      omega
    · obtain rfl : j = l.length := by omega
      simp [q0, q1, q5]
theorem w129 (n : Nat) (k : Int) (hl : n ≤ 2^36) (hk : 0 ≤ k) (hk2 : k ≤ 2^40) : Contract Try.prog false 129 [.ro, .ro] [.sl false 4 ((mkL 4 mkV k n).map vT), .i .i64 k] [.i .i64 (k + 4 * n)] [] := by
  refine mk_contract [] Try.func129 (c := Try.f129.body.get!) (by kernel_rfl) k129 r129 (of_decide_eq_true rfl) fun _ => ?_
  unfold c129; simp
  refine twp_for n (fun j s => s.t 0 = .sl false 4 ((mkL 4 mkV k n).map vT) ∧ s.t 1 = .i .i64 (k + 4 * j) ∧ s.t 5 = .i .i64 j ∧ s.H = lk [(1, [])]) [] (by simp) ?_ ?_
  · simp
  · rintro j s hj ⟨q0, q1, q5, qH⟩
    rw [nf_of qH]
    simp [q0, q1, q5]
    refine ⟨fun hlt => ?_, fun hge => ?_⟩
    · have hw : IntKind.i64.wrap (j + 1) = j + 1 := wrap_id (by omega) (by omega)
      have hx := mkL_get 4 mkV k hlt
      have hw1 : IntKind.i64.wrap (k + 4 * j + 1) = k + 4 * j + 1 := wrap_id (by omega) (by omega)
      have hw2 : IntKind.i64.wrap (k + 4 * j + 1 + 1) = k + 4 * j + 2 := by rw [wrap_id (by omega) (by omega)]; omega
      have hw3 : IntKind.i64.wrap (k + 4 * j + 2 + 1) = k + 4 * j + 3 := by rw [wrap_id (by omega) (by omega)]; omega
      have hw4 : IntKind.i64.wrap (k + 4 * j + 3 + 1) = k + 4 * (j + 1) := by rw [wrap_id (by omega) (by omega)]; omega
      have hf : ∀ n, canon (FloatKind.f64.nearest n) = flI n := fun _ => rfl
      simp [hx, hw, hw1, hw2, hw3, hw4, hf, flI_ne, q0, q1, q5, mkV]
      omega
    · obtain rfl : j = n := by omega
      simp [q0, q1, q5]
end Go.Proofs.YtmedelmfkciblaaT

/- Ents: whether they are right. -/
namespace Go.Proofs.YtmedelmfkciblaaT
set_option linter.unusedVariables false
set_option linter.unusedSimpArgs false
open Go

/- laws.szEnts -/
def c97 : TCode := (.seq (.ops [⟨(some 2), 4, .box 2 (.t 0), none, []⟩, ⟨(some 4), 6, .mv (.c (.i .i64 0)), none, []⟩])
  (.seq (.ops [⟨(some 5), 7, .faddr 0 1 (.t 2), none, []⟩, ⟨(some 6), 8, .load false 1 (.t 5), none, []⟩, ⟨(some 7), 9, .mv (.t 1), none, []⟩, ⟨(some 8), 10, .call 68 [((.t 6), 0), ((.t 7), 0)], none, []⟩, ⟨(some 1), 3, .mv (.t 8), none, []⟩])
  (.seq (.seq (.ops [⟨(some 9), 11, .mv (.t 1), none, []⟩, ⟨(some 10), 12, .bin .lss (.t 9) (.c (.i .i64 0)), none, []⟩])
  (.cond (.t 10)
  (.seq (.ops [⟨(some 4), 6, .mv (.c (.i .i64 (-1))), none, []⟩])
  .ret)
  .skip))
  (.seq (.ops [⟨(some 11), 13, .faddr 1 1 (.t 2), none, []⟩, ⟨(some 12), 14, .load false 1 (.t 11), none, []⟩, ⟨(some 13), 15, .mv (.t 1), none, []⟩, ⟨(some 14), 16, .call 68 [((.t 12), 0), ((.t 13), 0)], none, []⟩, ⟨(some 1), 3, .mv (.t 14), none, []⟩])
  (.seq (.seq (.ops [⟨(some 15), 17, .mv (.t 1), none, []⟩, ⟨(some 16), 18, .bin .lss (.t 15) (.c (.i .i64 0)), none, []⟩])
  (.cond (.t 16)
  (.seq (.ops [⟨(some 4), 6, .mv (.c (.i .i64 (-1))), none, []⟩])
  .ret)
  .skip))
  (.seq (.ops [⟨(some 17), 19, .mv (.t 1), none, []⟩, ⟨(some 4), 6, .mv (.t 17), none, []⟩])
  .ret))))))
theorem k97 : compCode Try.prog Try.f97.ntmps Try.f97.body.get! = some c97 := by kernel_rfl
theorem r97 : resTmps Try.prog Try.f97.results.toList = some [.tmp 4] := by kernel_rfl
/- laws.toEnts -/
def c101 : TCode := (.seq (.ops [⟨(some 1), 3, .box 2 (.t 0), none, []⟩, ⟨(some 2), 4, .box 2 (.c (.ag [(.sl true 1 []), (.sl true 1 [])])), none, []⟩])
  (.seq (.ops [⟨(some 3), 5, .box 2 (.c (.ag [(.sl true 1 []), (.sl true 1 [])])), none, []⟩])
  (.seq (.ops [⟨(some 4), 6, .faddr 0 1 (.t 1), none, []⟩, ⟨(some 5), 7, .load false 1 (.t 4), none, []⟩, ⟨(some 6), 8, .call 52 [((.t 5), 0)], none, []⟩, ⟨(some 7), 9, .faddr 0 1 (.t 3), none, []⟩, ⟨none, 1002004, .store 1 (.t 7) (.t 6), none, []⟩])
  (.seq (.ops [⟨(some 8), 10, .faddr 1 1 (.t 1), none, []⟩, ⟨(some 9), 11, .load false 1 (.t 8), none, []⟩, ⟨(some 10), 12, .call 52 [((.t 9), 0)], none, []⟩, ⟨(some 11), 13, .faddr 1 1 (.t 3), none, []⟩, ⟨none, 1003004, .store 1 (.t 11) (.t 10), none, []⟩])
  (.seq (.ops [⟨(some 12), 14, .load true 2 (.t 3), none, []⟩, ⟨none, 1004001, .store 2 (.t 2) (.t 12), none, []⟩])
  .ret)))))
theorem k101 : compCode Try.prog Try.f101.ntmps Try.f101.body.get! = some c101 := by kernel_rfl
theorem r101 : resTmps Try.prog Try.f101.results.toList = some [.cell 2 true 2] := by kernel_rfl
/- laws.eqEnts -/
def c108 : TCode := (.seq (.ops [⟨(some 2), 4, .box 2 (.t 0), none, []⟩, ⟨(some 3), 5, .box 2 (.t 1), none, []⟩, ⟨(some 4), 6, .mv (.c (.b false)), none, []⟩])
  (.seq (.seq (.ops [⟨(some 5), 7, .faddr 0 1 (.t 2), none, []⟩, ⟨(some 6), 8, .load false 1 (.t 5), none, []⟩, ⟨(some 7), 9, .faddr 0 1 (.t 3), none, []⟩, ⟨(some 8), 10, .load false 1 (.t 7), none, []⟩, ⟨(some 9), 11, .call 31 [((.t 6), 0), ((.t 8), 0)], none, []⟩, ⟨(some 10), 12, .un .not (.t 9), none, []⟩])
  (.cond (.t 10)
  (.seq (.ops [⟨(some 4), 6, .mv (.c (.b false)), none, []⟩])
  .ret)
  .skip))
  (.seq (.seq (.ops [⟨(some 11), 13, .faddr 1 1 (.t 2), none, []⟩, ⟨(some 12), 14, .load false 1 (.t 11), none, []⟩, ⟨(some 13), 15, .faddr 1 1 (.t 3), none, []⟩, ⟨(some 14), 16, .load false 1 (.t 13), none, []⟩, ⟨(some 15), 17, .call 31 [((.t 12), 0), ((.t 14), 0)], none, []⟩, ⟨(some 16), 18, .un .not (.t 15), none, []⟩])
  (.cond (.t 16)
  (.seq (.ops [⟨(some 4), 6, .mv (.c (.b false)), none, []⟩])
  .ret)
  .skip))
  (.seq (.ops [⟨(some 4), 6, .mv (.c (.b true)), none, []⟩])
  .ret))))
theorem k108 : compCode Try.prog Try.f108.ntmps Try.f108.body.get! = some c108 := by kernel_rfl
theorem r108 : resTmps Try.prog Try.f108.results.toList = some [.tmp 4] := by kernel_rfl
/- spec.EntsOk -/
def c234 : TCode := (.seq (.ops [⟨(some 1), 3, .box 2 (.t 0), none, []⟩, ⟨(some 2), 4, .mv (.c (.b false)), none, []⟩])
  (.seq (.ops [⟨(some 8), 10, .faddr 0 1 (.t 1), none, []⟩, ⟨(some 9), 11, .load false 1 (.t 8), none, []⟩, ⟨(some 10), 12, .len false (.t 9), none, []⟩, ⟨(some 3), 5, .mv (.t 10), none, []⟩])
  (.seq (.seq (.ops [⟨(some 11), 13, .mv (.t 3), none, []⟩, ⟨(some 12), 14, .bin .gtr (.t 11) (.c (.i .i64 2000)), none, []⟩, ⟨(some 13), 15, .mv (.t 12), none, []⟩, ⟨(some 14), 16, .faddr 1 1 (.t 1), (some (13, false)), []⟩, ⟨(some 15), 17, .load false 1 (.t 14), (some (13, false)), []⟩, ⟨(some 16), 18, .len false (.t 15), (some (13, false)), []⟩, ⟨(some 17), 19, .mv (.t 3), (some (13, false)), []⟩, ⟨(some 18), 20, .bin .gtr (.t 16) (.t 17), (some (13, false)), []⟩, ⟨(some 19), 21, .pick (.t 13) (.c (.b true)) (.t 18), none, []⟩])
  (.cond (.t 19)
  (.seq (.ops [⟨(some 2), 4, .mv (.c (.b false)), none, []⟩])
  .ret)
  .skip))
  (.seq (.seq (.ops [⟨(some 4), 6, .mv (.c (.i .i64 0)), none, []⟩])
  (.block 0 (.loop (.seq (.seq (.ops [⟨(some 20), 22, .mv (.t 4), none, []⟩, ⟨(some 21), 23, .mv (.t 3), none, []⟩, ⟨(some 22), 24, .bin .lss (.t 20) (.t 21), none, []⟩])
  (.cond (.t 22)
  .skip
  (.exit 0)))
  (.seq (.block 1 (.seq (.ops [⟨(some 25), 27, .faddr 0 1 (.t 1), none, []⟩, ⟨(some 26), 28, .load false 1 (.t 25), none, []⟩, ⟨(some 27), 29, .mv (.t 4), none, []⟩, ⟨(some 28), 30, .iaddr 1 (.t 26) (.t 27), none, []⟩, ⟨(some 29), 31, .load false 1 (.t 28), none, []⟩, ⟨(some 30), 32, .call 87 [((.t 29), 0), ((.c (.i .i64 0)), 0), ((.c (.i .i64 1000000)), 0)], none, []⟩, ⟨(some 31), 33, .un .not (.t 30), none, []⟩])
  (.cond (.t 31)
  (.seq (.ops [⟨(some 2), 4, .mv (.c (.b false)), none, []⟩])
  .ret)
  .skip)))
  (.ops [⟨(some 23), 25, .mv (.t 4), none, []⟩, ⟨(some 24), 26, .bin .add (.t 23) (.c (.i .i64 1)), none, []⟩, ⟨(some 4), 6, .mv (.t 24), none, []⟩]))))))
  (.seq (.ops [⟨(some 32), 34, .mv (.t 3), none, []⟩, ⟨(some 33), 35, .mkslice 1 1 [(.b false)] (.t 32) (.t 32), none, []⟩, ⟨(some 5), 7, .mv (.t 33), none, []⟩])
  (.seq (.seq (.ops [⟨(some 6), 8, .mv (.c (.i .i64 0)), none, []⟩])
  (.block 2 (.loop (.seq (.seq (.ops [⟨(some 34), 36, .mv (.t 6), none, []⟩, ⟨(some 35), 37, .faddr 1 1 (.t 1), none, []⟩, ⟨(some 36), 38, .load false 1 (.t 35), none, []⟩, ⟨(some 37), 39, .len false (.t 36), none, []⟩, ⟨(some 38), 40, .bin .lss (.t 34) (.t 37), none, []⟩])
  (.cond (.t 38)
  .skip
  (.exit 2)))
  (.seq (.block 3 (.seq (.ops [⟨(some 41), 43, .faddr 1 1 (.t 1), none, []⟩, ⟨(some 42), 44, .load false 1 (.t 41), none, []⟩, ⟨(some 43), 45, .mv (.t 6), none, []⟩, ⟨(some 44), 46, .iaddr 1 (.t 42) (.t 43), none, []⟩, ⟨(some 45), 47, .load false 1 (.t 44), none, []⟩, ⟨(some 7), 9, .mv (.t 45), none, []⟩])
  (.seq (.seq (.ops [⟨(some 46), 48, .mv (.t 7), none, []⟩, ⟨(some 47), 49, .mv (.t 3), none, []⟩, ⟨(some 48), 50, .bin .sub (.t 47) (.c (.i .i64 1)), none, []⟩, ⟨(some 49), 51, .call 87 [((.t 46), 0), ((.c (.i .i64 0)), 0), ((.t 48), 0)], none, []⟩, ⟨(some 50), 52, .un .not (.t 49), none, []⟩, ⟨(some 51), 53, .mv (.t 50), none, []⟩, ⟨(some 52), 54, .mv (.t 5), (some (51, false)), []⟩, ⟨(some 53), 55, .mv (.t 7), (some (51, false)), []⟩, ⟨(some 54), 56, .iaddr 1 (.t 52) (.t 53), (some (51, false)), []⟩, ⟨(some 55), 57, .load false 1 (.t 54), (some (51, false)), []⟩, ⟨(some 56), 58, .pick (.t 51) (.c (.b true)) (.t 55), none, []⟩])
  (.cond (.t 56)
  (.seq (.ops [⟨(some 2), 4, .mv (.c (.b false)), none, []⟩])
  .ret)
  .skip))
  (.ops [⟨(some 57), 59, .mv (.t 5), none, []⟩, ⟨(some 58), 60, .mv (.t 7), none, []⟩, ⟨(some 59), 61, .iaddr 1 (.t 57) (.t 58), none, []⟩, ⟨none, 1016003, .store 1 (.t 59) (.c (.b true)), none, []⟩]))))
  (.ops [⟨(some 39), 41, .mv (.t 6), none, []⟩, ⟨(some 40), 42, .bin .add (.t 39) (.c (.i .i64 1)), none, []⟩, ⟨(some 6), 8, .mv (.t 40), none, []⟩]))))))
  (.seq (.ops [⟨(some 2), 4, .mv (.c (.b true)), none, []⟩])
  .ret)))))))
theorem k234 : compCode Try.prog Try.f234.ntmps Try.f234.body.get! = some c234 := by kernel_rfl
theorem r234 : resTmps Try.prog Try.f234.results.toList = some [.tmp 2] := by kernel_rfl

/-- An Ents that one reads. -/
def entsR (g f : List Int) : TV := .ag [.sl false 1 (g.map iT), .sl false 1 (f.map iT)]
def entsO (g f : List Int) : TV := .ag [.sl true 1 (g.map iT), .sl true 1 (f.map iT)]

def szEntsF (g f : List Int) (n : Int) : Int := if szF n g.length < 0 then -1 else szF (szF n g.length) f.length
theorem w97 (g f : List Int) (n : Int) (hg : g.length < 2^63) (hf : f.length < 2^63) (hn : n < 2^62) (hn0 : 0 ≤ n) : Contract Try.prog false 97 [.ro, .ro] [entsR g f, .i .i64 n] [.i .i64 (szEntsF g f n)] [] := by
  refine mk_contract [] Try.func97 (c := Try.f97.body.get!) (by kernel_rfl) k97 r97 (of_decide_eq_true rfl) fun _ => ?_
  unfold c97 entsR; simp
  refine callW_ms [.ro, .ro] ?_
  simp
  refine callX_of (w68 g n hg hn hn0) (by simp) ?_
  simp
  refine ⟨fun h => ?_, fun h => ?_⟩
  · simp [szEntsF, h]
  · refine callW_ms [.ro, .ro] ?_
    simp
    have := szF_le n g.length (by omega) hn0
    refine callX_of (w68 f _ hf (by omega) h) (by simp) ?_
    simp
    refine ⟨fun h2 => ?_, fun h2 => ?_⟩
    · simp [szEntsF, szF_neg _ _ h2]; try (intro h3; omega)
    · simp [szEntsF]; try omega
theorem w101 (g f : List Int) (hg : g.length ≤ 2^40) (hf : f.length ≤ 2^40) : Contract Try.prog false 101 [.ro] [entsR g f] [entsO g f] [] := by
  refine mk_contract [] Try.func101 (c := Try.f101.body.get!) (by kernel_rfl) k101 r101 (of_decide_eq_true rfl) fun _ => ?_
  unfold c101 entsR entsO; simp
  refine callW_ms [.ro] ?_
  simp
  refine callX_of (w52 g hg) (by simp) ?_
  simp
  refine callW_ms [.ro] ?_
  simp
  refine callX_of (w52 f hf) (by simp) ?_
  simp
theorem w108 (g f g' f' : List Int) (hg : g.length ≤ 2^40) (hf : f.length ≤ 2^40) (hg' : g'.length ≤ 2^40) (hf' : f'.length ≤ 2^40) : Contract Try.prog false 108 [.ro, .ro] [entsR g f, entsR g' f'] [.b (decide (g = g' ∧ f = f'))] [] := by
  refine mk_contract [] Try.func108 (c := Try.f108.body.get!) (by kernel_rfl) k108 r108 (of_decide_eq_true rfl) fun _ => ?_
  unfold c108 entsR; simp
  refine callW_ms [.ro, .ro] ?_
  simp
  refine callX_of (w31 g g' hg hg') (by simp) ?_
  simp
  refine ⟨fun h => ?_, fun h => ?_⟩
  · refine callW_ms [.ro, .ro] ?_
    simp
    refine callX_of (w31 f f' hf hf') (by simp) ?_
    simp [h]
  · intro h2; exact absurd h2 h

def freeOk (n : Nat) (f : List Int) : Prop := (∀ x ∈ f, 0 ≤ x ∧ x < n) ∧ f.Nodup
instance (n : Nat) (f : List Int) : Decidable (freeOk n f) := by unfold freeOk; infer_instance
def freeL (n : Nat) (f : List Int) : List Bool := (List.range n).map fun (i : Nat) => decide ((i : Int) ∈ f)
@[simp] theorem freeL_len (n : Nat) (f : List Int) : (freeL n f).length = n := by simp [freeL]
theorem freeL_get {n : Nat} {f : List Int} {x : Int} (h0 : 0 ≤ x) (h1 : x < n) : (freeL n f)[x.toNat]? = some (decide (x ∈ f)) := by
  have h : x.toNat < n := by omega
  simp [freeL, h, Int.toNat_of_nonneg h0]
theorem freeL_set {n : Nat} {f : List Int} {x : Int} (h0 : 0 ≤ x) (h1 : x < n) : (freeL n f).set x.toNat true = freeL n (f ++ [x]) := by
  have h : x.toNat < n := by omega
  apply List.ext_getElem?
  intro i
  rw [List.getElem?_set]
  simp only [freeL, List.getElem?_map]
  by_cases hi : i < n
  · by_cases hx : x.toNat = i
    · subst hx; simp [h, Int.toNat_of_nonneg h0]
    · have : (i : Int) ≠ x := by omega
      simp [hx, hi, this]
  · have : ¬ x.toNat = i := by omega
    simp [hi, this]
@[simp] theorem freeL_nil (n : Nat) : freeL n [] = List.replicate n false := by
  apply List.ext_getElem?; intro i; simp [freeL, List.getElem?_replicate]; by_cases h : i < n <;> simp [h]
theorem freeOk_snoc {n : Nat} {f : List Int} {x : Int} : freeOk n (f ++ [x]) ↔ freeOk n f ∧ (0 ≤ x ∧ x < n) ∧ x ∉ f := by
  unfold freeOk
  simp only [List.mem_append, List.mem_singleton, List.nodup_append, List.nodup_cons]
  constructor
  · rintro ⟨h1, h2, _, h3⟩
    exact ⟨⟨fun y hy => h1 y (.inl hy), h2⟩, h1 x (.inr rfl), fun hx => h3 x hx x (by simp) rfl⟩
  · rintro ⟨⟨h1, h2⟩, h3, h4⟩
    refine ⟨fun y hy => ?_, h2, by simp, fun y hy z hz => ?_⟩
    · rcases hy with hy | rfl
      · exact h1 y hy
      · exact h3
    · subst hz; rintro rfl; exact h4 hy
theorem freeOk_take {n : Nat} {f : List Int} (h : freeOk n f) (j : Nat) : freeOk n (f.take j) :=
  ⟨fun x hx => h.1 x (List.mem_of_mem_take hx), h.2.sublist (List.take_sublist j f)⟩

def EntsOkP (g f : List Int) : Prop := (∀ x ∈ g, 0 ≤ x ∧ x ≤ 1000000) ∧ freeOk g.length f ∧ g.length ≤ 2000
instance (g f : List Int) : Decidable (EntsOkP g f) := by unfold EntsOkP; infer_instance

/-- What differs, out of a range, fits. -/
theorem len_le_of_nodup : ∀ (n : Nat) (f : List Int), (∀ x ∈ f, 0 ≤ x ∧ x < n) → f.Nodup → f.length ≤ n
  | 0, [], _, _ => by simp
  | 0, x :: f, h, _ => by have := h x (by simp); omega
  | n + 1, f, h, hn => by
    have h1 := len_le_of_nodup n (f.erase (n : Int)) (fun x hx => by
      have h2 := (hn.mem_erase_iff).1 hx
      have h3 := h x h2.2
      have : x ≠ n := h2.1
      omega) (hn.erase _)
    by_cases hm : (n : Int) ∈ f
    · rw [List.length_erase_of_mem hm] at h1; omega
    · rw [List.erase_of_not_mem hm] at h1; omega

theorem w234 (g f : List Int) (hg : g.length ≤ 2^40) (hf : f.length ≤ 2^40) : Contract Try.prog false 234 [.ro] [entsR g f] [.b (decide (EntsOkP g f))] [] := by
  refine mk_contract [] Try.func234 (c := Try.f234.body.get!) (by kernel_rfl) k234 r234 (of_decide_eq_true rfl) fun _ => ?_
  unfold c234 entsR; simp
  by_cases h : (2000 : Int) < g.length
  · have hE : ¬ EntsOkP g f := fun h2 => by have := h2.2.2; omega
    simp [h, hE]
  simp [h]
  refine ⟨fun h2 => ?_, fun h2 => ?_⟩
  · simp [EntsOkP]
    intro _ h3; have := len_le_of_nodup _ _ h3.1 h3.2; omega
  refine twp_for g.length (fun j s => s.t 1 = .pt [(3, 0)] 0 0 ∧ s.t 3 = .i .i64 g.length ∧ s.t 4 = .i .i64 j ∧ (∀ x ∈ g.take j, 0 ≤ x ∧ x ≤ 1000000) ∧
    s.H = lk [(1, []), (3, [.po true [.sl false 1 (g.map iT), .sl false 1 (f.map iT)]])]) [] (by simp) ?_ ?_
  · simp
  · rintro j s hj ⟨q1, q3, q4, hok, qH⟩
    rw [nf_of qH]
    simp [q1, q3, q4]
    refine ⟨fun hlt => ?_, fun hge => ?_⟩
    · obtain ⟨x, hx⟩ := get_some hlt
      have hw : IntKind.i64.wrap (j + 1) = j + 1 := wrap_id (by omega) (by omega)
      simp [hx]
      refine callW_ms [.ro, .ro, .ro] ?_
      simp
      by_cases hr : 0 ≤ x ∧ x ≤ 1000000
      · refine callX_of ((w87 _ _ _).t hr) (by simp) ?_
        simp [q1, q3, q4, hw, take_snoc hx]
        refine ⟨hlt, fun y hy => ?_⟩
        rcases hy with hy | rfl
        · exact hok y hy
        · exact hr
      · refine callX_of ((w87 _ _ _).f hr) (by simp) ?_
        simp
        intro h; exact absurd (h.1 x (List.mem_of_getElem? hx)) hr
    · obtain rfl : j = g.length := by omega
      simp at hok
      simp [q1, q3]
      refine ⟨by omega, ?_⟩
      refine twp_for f.length (fun j s => s.t 1 = .pt [(3, 0)] 0 0 ∧ s.t 3 = .i .i64 g.length ∧ s.t 5 = .rf [(35, 0)] 0 g.length ∧ s.t 6 = .i .i64 j ∧ freeOk g.length (f.take j) ∧
        s.H = lk [(1, []), (3, [.po true [.sl false 1 (g.map iT), .sl false 1 (f.map iT)]]), (35, [.sl true 1 ((freeL g.length (f.take j)).map bT)])]) [] (by simp) ?_ ?_
      · simp [q1, q3, freeOk]
      · rintro j s hj ⟨q1, q3, q5, q6, hok, qH⟩
        rw [nf_of qH]
        simp [q1, q3, q5, q6]
        refine ⟨fun hlt => ?_, fun hge => ?_⟩
        · obtain ⟨x, hx⟩ := get_some hlt
          have hw : IntKind.i64.wrap (j + 1) = j + 1 := wrap_id (by omega) (by omega)
          have hw2 : IntKind.i64.wrap (g.length - 1) = g.length - 1 := wrap_id (by omega) (by omega)
          have hsn := take_snoc hx
          simp [hx, hw2, q3]
          refine callW_ms [.ro, .ro, .ro] ?_
          simp
          by_cases hr : 0 ≤ x ∧ x ≤ (g.length : Int) - 1
          · refine callX_of ((w87 _ _ _).t hr) (by simp) ?_
            have hgt := freeL_get (n := g.length) (f := f.take j) (x := x) hr.1 (by omega)
            have hset : (List.map bT (freeL g.length (f.take j))).set x.toNat [.b true] = List.map bT (freeL g.length (f.take (j + 1))) := by
              rw [hsn, ← freeL_set hr.1 (by omega)]; simp
            have hno : x ∈ f.take j → ¬ freeOk g.length f := fun hx2 h => by
              have := freeOk_take h (j + 1); rw [hsn, freeOk_snoc] at this; exact this.2.2 hx2
            simp [q1, q3, q5, q6, hr.1, hgt, hw, hset]
            refine ⟨by omega, fun hx2 => by simp [hno hx2, EntsOkP], fun hx2 => ⟨by omega, hlt, ?_⟩⟩
            rw [hsn, freeOk_snoc]; exact ⟨hok, ⟨hr.1, by omega⟩, hx2⟩
          · refine callX_of ((w87 _ _ _).f hr) (by simp) ?_
            have hno : ¬ freeOk g.length f := fun h => by
              have := freeOk_take h (j + 1); rw [hsn, freeOk_snoc] at this; omega
            simp [hno, EntsOkP]
        · obtain rfl : j = f.length := by omega
          simp at hok
          exact ⟨by assumption, hok, by omega⟩
end Go.Proofs.YtmedelmfkciblaaT

/- The law FnExactEntsOk, walked. -/
namespace Go.Proofs.YtmedelmfkciblaaT
set_option linter.unusedVariables false
set_option linter.unusedSimpArgs false
open Go

theorem szEntsF_len {g f : List Int} {n : Int} (h : ¬ szEntsF g f n < 0) : g.length ≤ n ∧ f.length ≤ n := by
  unfold szEntsF at h
  split at h
  · omega
  · rename_i h1
    have h2 := szF_k n g.length (by omega)
    have h3 := szF_k _ f.length (by omega : 0 ≤ szF (szF n g.length) f.length)
    unfold szF at h1 h3
    split at h3 <;> omega

end Go.Proofs.YtmedelmfkciblaaT

/- A thing of an Ents: whether it is live. -/
namespace Go.Proofs.YtmedelmfkciblaaT
set_option linter.unusedVariables false
set_option linter.unusedSimpArgs false
open Go

/- laws.toEnt -/
def c60 : TCode := (.seq (.ops [⟨(some 1), 3, .box 2 (.t 0), none, []⟩, ⟨(some 2), 4, .box 2 (.c (.ag [(.i .i64 0), (.i .i64 0)])), none, []⟩])
  (.seq (.ops [⟨(some 3), 5, .box 2 (.c (.ag [(.i .i64 0), (.i .i64 0)])), none, []⟩])
  (.seq (.ops [⟨(some 4), 6, .faddr 0 1 (.t 1), none, []⟩, ⟨(some 5), 7, .load false 1 (.t 4), none, []⟩, ⟨(some 6), 8, .faddr 0 1 (.t 3), none, []⟩, ⟨none, 1002003, .store 1 (.t 6) (.t 5), none, []⟩])
  (.seq (.ops [⟨(some 7), 9, .faddr 1 1 (.t 1), none, []⟩, ⟨(some 8), 10, .load false 1 (.t 7), none, []⟩, ⟨(some 9), 11, .faddr 1 1 (.t 3), none, []⟩, ⟨none, 1003003, .store 1 (.t 9) (.t 8), none, []⟩])
  (.seq (.ops [⟨(some 10), 12, .load true 2 (.t 3), none, []⟩, ⟨none, 1004001, .store 2 (.t 2) (.t 10), none, []⟩])
  .ret)))))
theorem k60 : compCode Try.prog Try.f60.ntmps Try.f60.body.get! = some c60 := by kernel_rfl
theorem r60 : resTmps Try.prog Try.f60.results.toList = some [.cell 2 true 2] := by kernel_rfl
/- laws.eqEnt -/
def c94 : TCode := (.seq (.ops [⟨(some 2), 4, .box 2 (.t 0), none, []⟩, ⟨(some 3), 5, .box 2 (.t 1), none, []⟩, ⟨(some 4), 6, .mv (.c (.b false)), none, []⟩])
  (.seq (.seq (.ops [⟨(some 5), 7, .faddr 0 1 (.t 2), none, []⟩, ⟨(some 6), 8, .load false 1 (.t 5), none, []⟩, ⟨(some 7), 9, .faddr 0 1 (.t 3), none, []⟩, ⟨(some 8), 10, .load false 1 (.t 7), none, []⟩, ⟨(some 9), 11, .bin .neq (.t 6) (.t 8), none, []⟩])
  (.cond (.t 9)
  (.seq (.ops [⟨(some 4), 6, .mv (.c (.b false)), none, []⟩])
  .ret)
  .skip))
  (.seq (.seq (.ops [⟨(some 10), 12, .faddr 1 1 (.t 2), none, []⟩, ⟨(some 11), 13, .load false 1 (.t 10), none, []⟩, ⟨(some 12), 14, .faddr 1 1 (.t 3), none, []⟩, ⟨(some 13), 15, .load false 1 (.t 12), none, []⟩, ⟨(some 14), 16, .bin .neq (.t 11) (.t 13), none, []⟩])
  (.cond (.t 14)
  (.seq (.ops [⟨(some 4), 6, .mv (.c (.b false)), none, []⟩])
  .ret)
  .skip))
  (.seq (.ops [⟨(some 4), 6, .mv (.c (.b true)), none, []⟩])
  .ret))))
theorem k94 : compCode Try.prog Try.f94.ntmps Try.f94.body.get! = some c94 := by kernel_rfl
theorem r94 : resTmps Try.prog Try.f94.results.toList = some [.tmp 4] := by kernel_rfl
/- slices.Index[[]int,int] -/
def c161 : TCode := (.seq (.ops [⟨(some 4), 6, .mv (.c (.i .i64 0)), none, []⟩])
  (.seq (.seq (.ops [⟨(some 6), 8, .mv (.t 0), none, []⟩, ⟨(some 7), 9, .len false (.t 6), none, []⟩, ⟨(some 8), 10, .mv (.c (.i .i64 0)), none, []⟩])
  (.block 0 (.loop (.seq (.ops [⟨(some 9), 11, .bin .lss (.t 8) (.t 7), none, []⟩])
  (.seq (.cond (.t 9)
  .skip
  (.exit 0))
  (.seq (.block 1 (.seq (.ops [⟨(some 10), 12, .mv (.t 8), none, []⟩, ⟨(some 5), 7, .mv (.t 10), none, []⟩])
  (.seq (.ops [⟨(some 11), 13, .mv (.t 1), none, []⟩, ⟨(some 12), 14, .mv (.t 0), none, []⟩, ⟨(some 13), 15, .mv (.t 5), none, []⟩, ⟨(some 14), 16, .iaddr 1 (.t 12) (.t 13), none, []⟩, ⟨(some 15), 17, .load false 1 (.t 14), none, []⟩, ⟨(some 16), 18, .bin .eql (.t 11) (.t 15), none, []⟩])
  (.cond (.t 16)
  (.seq (.ops [⟨(some 17), 19, .mv (.t 5), none, []⟩, ⟨(some 4), 6, .mv (.t 17), none, []⟩])
  .ret)
  .skip))))
  (.ops [⟨(some 18), 20, .bin .add (.t 8) (.c (.i .i64 1)), none, []⟩, ⟨(some 8), 10, .mv (.t 18), none, []⟩])))))))
  (.seq (.ops [⟨(some 4), 6, .mv (.c (.i .i64 (-1))), none, []⟩])
  .ret)))
theorem k161 : compCode Try.prog Try.f161.ntmps Try.f161.body.get! = some c161 := by kernel_rfl
theorem r161 : resTmps Try.prog Try.f161.results.toList = some [.tmp 4] := by kernel_rfl
/- slices.Contains[[]int,int] -/
def c106 : TCode := (.seq (.ops [⟨(some 4), 6, .mv (.c (.b false)), none, []⟩])
  (.seq (.ops [⟨(some 5), 7, .mv (.t 0), none, []⟩, ⟨(some 6), 8, .mv (.t 1), none, []⟩, ⟨(some 7), 9, .call 161 [((.t 5), 0), ((.t 6), 0)], none, []⟩, ⟨(some 8), 10, .bin .geq (.t 7) (.c (.i .i64 0)), none, []⟩, ⟨(some 4), 6, .mv (.t 8), none, []⟩])
  .ret))
theorem k106 : compCode Try.prog Try.f106.ntmps Try.f106.body.get! = some c106 := by kernel_rfl
theorem r106 : resTmps Try.prog Try.f106.results.toList = some [.tmp 4] := by kernel_rfl
/- spec.l2Live -/
def c215 : TCode := (.seq (.ops [⟨(some 2), 4, .box 2 (.t 0), none, []⟩, ⟨(some 3), 5, .box 2 (.t 1), none, []⟩, ⟨(some 4), 6, .mv (.c (.b false)), none, []⟩])
  (.seq (.seq (.draw [⟨(some 6), 8, .faddr 0 1 (.t 3), none, []⟩, ⟨(some 7), 9, .load false 1 (.t 6), none, []⟩, ⟨(some 8), 10, .faddr 0 1 (.t 2), none, []⟩, ⟨(some 9), 11, .load false 1 (.t 8), none, []⟩, ⟨(some 10), 12, .len false (.t 9), none, []⟩, ⟨(some 11), 13, .bin .sub (.t 10) (.c (.i .i64 1)), none, []⟩, ⟨(some 12), 14, .call 87 [((.t 7), 0), ((.c (.i .i64 0)), 0), ((.t 11), 0)], none, []⟩, ⟨(some 13), 15, .un .not (.t 12), none, []⟩, ⟨(some 14), 16, .mv (.t 13), none, []⟩, ⟨(some 15), 17, .faddr 0 1 (.t 2), (some (14, false)), []⟩, ⟨(some 16), 18, .load false 1 (.t 15), (some (14, false)), []⟩, ⟨(some 17), 19, .faddr 0 1 (.t 3), (some (14, false)), []⟩, ⟨(some 18), 20, .load false 1 (.t 17), (some (14, false)), []⟩, ⟨(some 19), 21, .iaddr 1 (.t 16) (.t 18), (some (14, false)), []⟩, ⟨(some 20), 22, .load false 1 (.t 19), (some (14, false)), []⟩, ⟨(some 21), 23, .faddr 1 1 (.t 3), (some (14, false)), []⟩, ⟨(some 22), 24, .load false 1 (.t 21), (some (14, false)), []⟩, ⟨(some 23), 25, .bin .neq (.t 20) (.t 22), (some (14, false)), []⟩, ⟨(some 24), 26, .pick (.t 14) (.c (.b true)) (.t 23), none, []⟩])
  (.cond (.t 24)
  (.seq (.ops [⟨(some 4), 6, .mv (.c (.b false)), none, []⟩])
  .ret)
  .skip))
  (.seq (.seq (.ops [⟨(some 5), 7, .mv (.c (.i .i64 0)), none, []⟩])
  (.block 0 (.loop (.seq (.seq (.ops [⟨(some 25), 27, .mv (.t 5), none, []⟩, ⟨(some 26), 28, .faddr 1 1 (.t 2), none, []⟩, ⟨(some 27), 29, .load false 1 (.t 26), none, []⟩, ⟨(some 28), 30, .len false (.t 27), none, []⟩, ⟨(some 29), 31, .bin .lss (.t 25) (.t 28), none, []⟩])
  (.cond (.t 29)
  .skip
  (.exit 0)))
  (.seq (.block 1 (.seq (.draw [⟨(some 32), 34, .faddr 1 1 (.t 2), none, []⟩, ⟨(some 33), 35, .load false 1 (.t 32), none, []⟩, ⟨(some 34), 36, .mv (.t 5), none, []⟩, ⟨(some 35), 37, .iaddr 1 (.t 33) (.t 34), none, []⟩, ⟨(some 36), 38, .load false 1 (.t 35), none, []⟩, ⟨(some 37), 39, .faddr 0 1 (.t 3), none, []⟩, ⟨(some 38), 40, .load false 1 (.t 37), none, []⟩, ⟨(some 39), 41, .bin .eql (.t 36) (.t 38), none, []⟩])
  (.cond (.t 39)
  (.seq (.ops [⟨(some 4), 6, .mv (.c (.b false)), none, []⟩])
  .ret)
  .skip)))
  (.ops [⟨(some 30), 32, .mv (.t 5), none, []⟩, ⟨(some 31), 33, .bin .add (.t 30) (.c (.i .i64 1)), none, []⟩, ⟨(some 5), 7, .mv (.t 31), none, []⟩]))))))
  (.seq (.ops [⟨(some 4), 6, .mv (.c (.b true)), none, []⟩])
  .ret))))
theorem k215 : compCode Try.prog Try.f215.ntmps Try.f215.body.get! = some c215 := by kernel_rfl
theorem r215 : resTmps Try.prog Try.f215.results.toList = some [.tmp 4] := by kernel_rfl

def entT (x y : Int) : TV := .ag [.i .i64 x, .i .i64 y]
theorem w60 (x y : Int) : Contract Try.prog false 60 [.ro] [entT x y] [entT x y] [] := by
  refine mk_contract [] Try.func60 (c := Try.f60.body.get!) (by kernel_rfl) k60 r60 (of_decide_eq_true rfl) fun _ => ?_
  unfold c60 entT; simp
theorem w94 (x y x' y' : Int) : Contract Try.prog false 94 [.ro, .ro] [entT x y, entT x' y'] [.b (decide (x = x' ∧ y = y'))] [] := by
  refine mk_contract [] Try.func94 (c := Try.f94.body.get!) (by kernel_rfl) k94 r94 (of_decide_eq_true rfl) fun _ => ?_
  unfold c94 entT; simp
  refine ⟨fun h => ⟨fun h2 => ⟨h, h2⟩, fun h2 _ => h2⟩, fun h h2 => absurd h2 h⟩

/-- The place of the first x, or -1. -/
def idxF (l : List Int) (x : Int) : Int := if x ∈ l then (l.idxOf x : Int) else -1
theorem idxF_at {l : List Int} {x : Int} {j : Nat} (h : l[j]? = some x) (hn : x ∉ l.take j) : idxF l x = j := by
  have hm := List.mem_of_getElem? h
  have hj := (List.getElem?_eq_some_iff.1 h).1
  have hl : l = l.take j ++ x :: l.drop (j + 1) := by
    have := (List.getElem?_eq_some_iff.1 h).2
    rw [← this, ← List.drop_eq_getElem_cons hj, List.take_append_drop]
  unfold idxF
  rw [if_pos hm]
  have : l.idxOf x = j := by
    rw [hl, List.idxOf_append, if_neg hn]
    simp [Nat.min_eq_left (Nat.le_of_lt hj)]
  rw [this]
theorem idxF_ge (l : List Int) (x : Int) : 0 ≤ idxF l x ↔ x ∈ l := by
  unfold idxF; split
  · rename_i h; exact ⟨fun _ => h, fun _ => by omega⟩
  · rename_i h; exact ⟨fun h2 => by omega, fun h2 => absurd h2 h⟩
theorem w161 (l : List Int) (x : Int) (hl : l.length ≤ 2^40) : Contract Try.prog false 161 [.ro, .ro] [.sl false 1 (l.map iT), .i .i64 x] [.i .i64 (idxF l x)] [] := by
  refine mk_contract [] Try.func161 (c := Try.f161.body.get!) (by kernel_rfl) k161 r161 (of_decide_eq_true rfl) fun _ => ?_
  unfold c161; simp
  refine twp_for l.length (fun j s => s.t 0 = .sl false 1 (l.map iT) ∧ s.t 1 = .i .i64 x ∧ s.t 7 = .i .i64 l.length ∧ s.t 8 = .i .i64 j ∧ x ∉ l.take j ∧ s.H = lk [(1, [])]) [] (by simp) ?_ ?_
  · simp
  · rintro j s hj ⟨q0, q1, q7, q8, hn, qH⟩
    rw [nf_of qH]
    simp [q0, q1, q7, q8]
    refine ⟨fun hlt => ?_, fun hge => ?_⟩
    · have hw : IntKind.i64.wrap (j + 1) = j + 1 := wrap_id (by omega) (by omega)
      obtain ⟨y, hy⟩ := get_some hlt
      simp [hy, hw, q0, q1, q7, q8]
      refine ⟨fun hxy => ?_, fun hxy => ⟨hlt, ?_⟩⟩
      · subst hxy; exact (idxF_at hy hn).symm
      · rw [take_snoc hy]; simp; exact ⟨hn, hxy⟩
    · obtain rfl : j = l.length := by omega
      rw [List.take_of_length_le (Nat.le_refl _)] at hn
      simp [idxF, hn]
theorem w106 (l : List Int) (x : Int) (hl : l.length ≤ 2^40) : Contract Try.prog false 106 [.ro, .ro] [.sl false 1 (l.map iT), .i .i64 x] [.b (decide (x ∈ l))] [] := by
  refine mk_contract [] Try.func106 (c := Try.f106.body.get!) (by kernel_rfl) k106 r106 (of_decide_eq_true rfl) fun _ => ?_
  unfold c106; simp
  refine callW_ms [.ro, .ro] ?_
  simp
  refine callX_of (w161 l x hl) (by simp) ?_
  simp [idxF_ge]

/-- Live: a place of its own, of the gen that stands there, not free. -/
def liveP (g f : List Int) (x y : Int) : Prop := (0 ≤ x ∧ x ≤ (g.length : Int) - 1) ∧ g[x.toNat]? = some y ∧ x ∉ f
instance (g f : List Int) (x y : Int) : Decidable (liveP g f x y) := by unfold liveP; infer_instance
theorem w215 (g f : List Int) (x y : Int) (hg : g.length ≤ 2^40) (hf : f.length ≤ 2^40) : Contract Try.prog false 215 [.ro, .ro] [entsR g f, entT x y] [.b (decide (liveP g f x y))] [] := by
  refine mk_contract [] Try.func215 (c := Try.f215.body.get!) (by kernel_rfl) k215 r215 (of_decide_eq_true rfl) fun _ => ?_
  have hw2 : IntKind.i64.wrap (g.length - 1) = g.length - 1 := wrap_id (by omega) (by omega)
  unfold c215 entT entsR; simp [hw2]
  refine callW_ms [.ro, .ro, .ro] ?_
  simp
  by_cases hr : 0 ≤ x ∧ x ≤ (g.length : Int) - 1
  · refine callX_of ((w87 _ _ _).t hr) (by simp) ?_
    obtain ⟨z, hz⟩ := get_some (l := g) (j := x.toNat) (by omega)
    by_cases hzy : z = y
    · subst hzy
      simp [hr.1, hz]
      refine twp_for f.length (fun j s => s.t 2 = .pt [(4, 0)] 0 0 ∧ s.t 3 = .pt [(5, 0)] 0 0 ∧ s.t 5 = .i .i64 j ∧ x ∉ f.take j ∧
        s.H = lk [(1, []), (4, [.po true [.sl false 1 (g.map iT), .sl false 1 (f.map iT)]]), (5, [.po true [.i .i64 x, .i .i64 z]])]) [] (by simp) ?_ ?_
      · simp
      · rintro j s hj ⟨q2, q3, q5, hn, qH⟩
        rw [nf_of qH]
        simp [q2, q3, q5]
        refine ⟨fun hlt => ?_, fun hge => ?_⟩
        · have hw : IntKind.i64.wrap (j + 1) = j + 1 := wrap_id (by omega) (by omega)
          obtain ⟨u, hu⟩ := get_some hlt
          simp [hu, hw, q2, q3, q5]
          refine ⟨fun hux => ?_, fun hux => ⟨hlt, ?_⟩⟩
          · subst hux
            intro h; exact h.2.2 (List.mem_of_getElem? hu)
          · rw [take_snoc hu]; simp; exact ⟨hn, fun h => hux h.symm⟩
        · obtain rfl : j = f.length := by omega
          rw [List.take_of_length_le (Nat.le_refl _)] at hn
          exact ⟨hr, hz, hn⟩
    · have : ¬ liveP g f x y := fun h => by have := h.2.1; rw [hz] at this; cases this; exact hzy rfl
      simp [hr.1, hz, hzy, this]
  · refine callX_of ((w87 _ _ _).f hr) (by simp) ?_
    have : ¬ liveP g f x y := fun h => hr h.1
    simp [this]

end Go.Proofs.YtmedelmfkciblaaT

/- EntGive: parts. -/
namespace Go.Proofs.YtmedelmfkciblaaT
set_option linter.unusedVariables false
set_option linter.unusedSimpArgs false
open Go

/- spec.l2Copy -/
def c214 : TCode := (.seq (.ops [⟨(some 1), 3, .box 2 (.t 0), none, []⟩, ⟨(some 2), 4, .box 2 (.c (.ag [(.sl true 1 []), (.sl true 1 [])])), none, []⟩])
  (.seq (.draw [⟨(some 3), 5, .bslice 1 0 [(.i .i64 0)] [], none, []⟩, ⟨(some 4), 6, .faddr 0 1 (.t 1), none, [0]⟩, ⟨(some 5), 7, .load false 1 (.t 4), none, [0]⟩, ⟨(some 6), 8, .app 1 8 (.t 3) (.t 5), none, []⟩, ⟨(some 7), 9, .bslice 1 0 [(.i .i64 0)] [], none, [0, 1, 2, 3]⟩, ⟨(some 8), 10, .faddr 1 1 (.t 1), none, [0, 3, 4]⟩, ⟨(some 9), 11, .load false 1 (.t 8), none, [0, 3, 4]⟩, ⟨(some 10), 12, .app 1 8 (.t 7) (.t 9), none, []⟩, ⟨(some 11), 13, .build [(.sl true 1 []), (.sl true 1 [])] [(0, 1, (.t 6)), (1, 1, (.t 10))], none, []⟩, ⟨none, 1001009, .store 2 (.t 2) (.t 11), none, []⟩])
  .ret))
theorem k214 : compCode Try.prog Try.f214.ntmps Try.f214.body.get! = some c214 := by kernel_rfl
theorem r214 : resTmps Try.prog Try.f214.results.toList = some [.cell 2 true 2] := by kernel_rfl
/- spec.l2Give -/
def c221 : TCode := (.seq (.ops [⟨(some 2), 4, .box 2 (.t 0), none, []⟩, ⟨(some 3), 5, .box 2 (.t 1), none, []⟩, ⟨(some 4), 6, .box 2 (.c (.ag [(.sl true 1 []), (.sl true 1 [])])), none, []⟩])
  (.seq (.ops [⟨(some 5), 7, .faddr 0 1 (.t 2), none, []⟩, ⟨(some 6), 8, .load false 1 (.t 5), none, []⟩, ⟨(some 7), 9, .faddr 0 1 (.t 3), none, []⟩, ⟨(some 8), 10, .load false 1 (.t 7), none, []⟩, ⟨(some 9), 11, .faddr 1 1 (.t 3), none, []⟩, ⟨(some 10), 12, .load false 1 (.t 9), none, []⟩, ⟨(some 11), 13, .bin .add (.t 10) (.c (.i .i64 1)), none, []⟩, ⟨(some 12), 14, .iaddr 1 (.t 6) (.t 8), none, []⟩, ⟨none, 1001008, .store 1 (.t 12) (.t 11), none, []⟩])
  (.seq (.seq (.ops [⟨(some 13), 15, .faddr 1 1 (.t 3), none, []⟩, ⟨(some 14), 16, .load false 1 (.t 13), none, []⟩, ⟨(some 15), 17, .bin .geq (.t 14) (.c (.i .i64 1000000)), none, []⟩])
  (.cond (.t 15)
  (.ops [⟨(some 16), 18, .faddr 0 1 (.t 2), none, []⟩, ⟨(some 17), 19, .load false 1 (.t 16), none, []⟩, ⟨(some 18), 20, .faddr 0 1 (.t 3), none, []⟩, ⟨(some 19), 21, .load false 1 (.t 18), none, []⟩, ⟨(some 20), 22, .iaddr 1 (.t 17) (.t 19), none, []⟩, ⟨none, 1003005, .store 1 (.t 20) (.c (.i .i64 0)), none, []⟩])
  .skip))
  (.seq (.ops [⟨(some 21), 23, .faddr 1 1 (.t 2), none, []⟩, ⟨(some 22), 24, .load false 1 (.t 21), none, []⟩, ⟨(some 23), 25, .faddr 0 1 (.t 3), none, []⟩, ⟨(some 24), 26, .load false 1 (.t 23), none, []⟩, ⟨(some 25), 27, .bslice 1 1 [(.i .i64 0)] [(0, (.t 24))], none, []⟩, ⟨(some 26), 28, .app 1 8 (.t 22) (.t 25), none, []⟩, ⟨(some 27), 29, .faddr 1 1 (.t 2), none, []⟩, ⟨none, 1004007, .store 1 (.t 27) (.t 26), none, []⟩])
  (.seq (.ops [⟨(some 28), 30, .load true 2 (.t 2), none, []⟩, ⟨none, 1005001, .store 2 (.t 4) (.t 28), none, []⟩])
  .ret)))))
theorem k221 : compCode Try.prog Try.f221.ntmps Try.f221.body.get! = some c221 := by kernel_rfl
theorem r221 : resTmps Try.prog Try.f221.results.toList = some [.cell 4 true 2] := by kernel_rfl
/- laws.markEnts -/
def c111 : TCode := (.seq (.ops [⟨(some 2), 4, .box 2 (.t 0), none, []⟩, ⟨(some 4), 6, .mv (.c (.i .i64 0)), none, []⟩])
  (.seq (.ops [⟨(some 5), 7, .faddr 0 1 (.t 2), none, []⟩, ⟨(some 6), 8, .load false 1 (.t 5), none, []⟩, ⟨(some 7), 9, .mv (.t 1), none, []⟩, ⟨(some 8), 10, .call 34 [((.t 6), 0), ((.t 7), 0)], none, []⟩, ⟨(some 1), 3, .mv (.t 8), none, []⟩])
  (.seq (.ops [⟨(some 9), 11, .faddr 1 1 (.t 2), none, []⟩, ⟨(some 10), 12, .load false 1 (.t 9), none, []⟩, ⟨(some 11), 13, .mv (.t 1), none, []⟩, ⟨(some 12), 14, .call 34 [((.t 10), 0), ((.t 11), 0)], none, []⟩, ⟨(some 1), 3, .mv (.t 12), none, []⟩])
  (.seq (.ops [⟨(some 13), 15, .mv (.t 1), none, []⟩, ⟨(some 4), 6, .mv (.t 13), none, []⟩])
  .ret))))
theorem k111 : compCode Try.prog Try.f111.ntmps Try.f111.body.get! = some c111 := by kernel_rfl
theorem r111 : resTmps Try.prog Try.f111.results.toList = some [.tmp 4] := by kernel_rfl
/- laws.heldEnts -/
def c127 : TCode := (.seq (.ops [⟨(some 2), 4, .box 2 (.t 0), none, []⟩, ⟨(some 4), 6, .mv (.c (.i .i64 0)), none, []⟩])
  (.seq (.ops [⟨(some 5), 7, .faddr 0 1 (.t 2), none, []⟩, ⟨(some 6), 8, .load false 1 (.t 5), none, []⟩, ⟨(some 7), 9, .mv (.t 1), none, []⟩, ⟨(some 8), 10, .call 35 [((.t 6), 0), ((.t 7), 0)], none, []⟩, ⟨(some 1), 3, .mv (.t 8), none, []⟩])
  (.seq (.seq (.ops [⟨(some 9), 11, .mv (.t 1), none, []⟩, ⟨(some 10), 12, .bin .lss (.t 9) (.c (.i .i64 0)), none, []⟩])
  (.cond (.t 10)
  (.seq (.ops [⟨(some 4), 6, .mv (.c (.i .i64 (-1))), none, []⟩])
  .ret)
  .skip))
  (.seq (.ops [⟨(some 11), 13, .faddr 1 1 (.t 2), none, []⟩, ⟨(some 12), 14, .load false 1 (.t 11), none, []⟩, ⟨(some 13), 15, .mv (.t 1), none, []⟩, ⟨(some 14), 16, .call 35 [((.t 12), 0), ((.t 13), 0)], none, []⟩, ⟨(some 1), 3, .mv (.t 14), none, []⟩])
  (.seq (.seq (.ops [⟨(some 15), 17, .mv (.t 1), none, []⟩, ⟨(some 16), 18, .bin .lss (.t 15) (.c (.i .i64 0)), none, []⟩])
  (.cond (.t 16)
  (.seq (.ops [⟨(some 4), 6, .mv (.c (.i .i64 (-1))), none, []⟩])
  .ret)
  .skip))
  (.seq (.ops [⟨(some 17), 19, .mv (.t 1), none, []⟩, ⟨(some 4), 6, .mv (.t 17), none, []⟩])
  .ret))))))
theorem k127 : compCode Try.prog Try.f127.ntmps Try.f127.body.get! = some c127 := by kernel_rfl
theorem r127 : resTmps Try.prog Try.f127.results.toList = some [.tmp 4] := by kernel_rfl

theorem w214 (g f : List Int) (hg : g.length ≤ 2^40) (hf : f.length ≤ 2^40) : Contract Try.prog false 214 [.ro] [entsR g f] [entsO g f] [] := by
  refine mk_contract [] Try.func214 (c := Try.f214.body.get!) (by kernel_rfl) k214 r214 (of_decide_eq_true rfl) fun _ => ?_
  unfold c214 entsR entsO; simp
  omega
def giveG (g : List Int) (x y : Int) : List Int := g.set x.toNat (if 1000000 ≤ y then 0 else y + 1)
@[simp] theorem giveG_len (g : List Int) (x y : Int) : (giveG g x y).length = g.length := by simp [giveG]
theorem w221 (g f : List Int) (x y : Int) (hf : f.length ≤ 2^40) (hx0 : 0 ≤ x) (hxg : g[x.toNat]? = some y) (hy : 0 ≤ y ∧ y ≤ 1000000) : Contract Try.prog false 221 [.own, .ro] [entsO g f, entT x y] [entsO (giveG g x y) (f ++ [x])] [none, none] := by
  refine mk_contract [none, none] Try.func221 (c := Try.f221.body.get!) (by kernel_rfl) k221 r221 (of_decide_eq_true rfl) fun _ => ?_
  have hlt := (List.getElem?_eq_some_iff.1 hxg).1
  have hw : IntKind.i64.wrap (y + 1) = y + 1 := wrap_id (by omega) (by omega)
  have hs : ∀ e, ((g.map iT).set x.toNat e)[x.toNat]? = some e := fun e => by simp [hlt]
  unfold c221; unfold entsO entT; simp [hw, hx0, hxg, hs]
  refine ⟨by omega, fun hge => ?_, fun hlt2 => ?_⟩
  · simp [giveG, hge]; omega
  · simp [giveG, show ¬ 1000000 ≤ y by omega]; omega
theorem w111 (g f : List Int) (k : Int) (hg : g.length ≤ 2^30) (hf : f.length ≤ 2^30) (hk : 0 ≤ k) (hk2 : k ≤ 2^39) : Contract Try.prog false 111 [.own, .ro] [entsO g f, .i .i64 k] [.i .i64 (k + g.length + f.length)] [some (.sl true 1 ((cnt k g.length).map iT)), some (.sl true 1 ((cnt (k + g.length) f.length).map iT))] := by
  refine mk_contract [some [(4, 0), (0, 0)], some [(4, 0), (0, 1)]] Try.func111 (c := Try.f111.body.get!) (by kernel_rfl) k111 r111 (of_decide_eq_true rfl) fun _ => ?_
  unfold c111; unfold entsO; simp
  refine callW_ms [.own, .ro] ?_
  simp
  refine callX_of (w34 g k (by omega) (by omega) (by omega)) (by simp) ?_
  simp
  refine callW_ms [.own, .ro] ?_
  simp
  refine callX_of (w34 f _ (by omega) (by omega) (by omega)) (by simp) ?_
  simp
theorem W35 (n : Nat) (k : Int) (hl : n ≤ 2^40) (hk : 0 ≤ k) (hk2 : k ≤ 2^40) : Contract Try.prog false 35 [.ro, .ro] [.sl false 1 ((cnt k n).map iT), .i .i64 k] [.i .i64 (k + n)] [] := by
  simpa using w35 (cnt k n) k (by simpa using hl) hk hk2
theorem w127 (n m : Nat) (k : Int) (hg : n ≤ 2^30) (hf : m ≤ 2^30) (hk : 0 ≤ k) (hk2 : k ≤ 2^39) : Contract Try.prog false 127 [.ro, .ro] [entsR (cnt k n) (cnt (k + n) m), .i .i64 k] [.i .i64 (k + n + m)] [] := by
  refine mk_contract [] Try.func127 (c := Try.f127.body.get!) (by kernel_rfl) k127 r127 (of_decide_eq_true rfl) fun _ => ?_
  unfold c127; unfold entsR; simp
  refine callW_ms [.ro, .ro] ?_
  simp
  refine callX_of (W35 n k (by omega) (by omega) (by omega)) (by simp) ?_
  simp
  refine ⟨by omega, fun _ => ?_⟩
  refine callW_ms [.ro, .ro] ?_
  simp
  refine callX_of (W35 m _ (by omega) (by omega) (by omega)) (by simp) ?_
  simp
  omega
def giveP (g f : List Int) (x y : Int) : List Int × List Int × Int :=
  if EntsOkP g f then (if liveP g f x y then (giveG g x y, f ++ [x], 0) else (g, f, 2)) else (g, f, 1)
theorem giveP_len (g f : List Int) (x y : Int) : (giveP g f x y).1.length = g.length ∧ (giveP g f x y).2.1.length ≤ f.length + 1 := by
  unfold giveP; split
  · split <;> simp
  · simp
end Go.Proofs.YtmedelmfkciblaaT

/- Rows of things; EntList. -/
namespace Go.Proofs.YtmedelmfkciblaaT
set_option linter.unusedVariables false
set_option linter.unusedSimpArgs false
open Go

/- laws.eqEntS -/
def c54 : TCode := (.seq (.ops [⟨(some 4), 6, .mv (.c (.b false)), none, []⟩])
  (.seq (.seq (.ops [⟨(some 6), 8, .mv (.t 0), none, []⟩, ⟨(some 7), 9, .len false (.t 6), none, []⟩, ⟨(some 8), 10, .mv (.t 1), none, []⟩, ⟨(some 9), 11, .len false (.t 8), none, []⟩, ⟨(some 10), 12, .bin .neq (.t 7) (.t 9), none, []⟩])
  (.cond (.t 10)
  (.seq (.ops [⟨(some 4), 6, .mv (.c (.b false)), none, []⟩])
  .ret)
  .skip))
  (.seq (.seq (.ops [⟨(some 5), 7, .mv (.c (.i .i64 0)), none, []⟩])
  (.block 0 (.loop (.seq (.seq (.ops [⟨(some 11), 13, .mv (.t 5), none, []⟩, ⟨(some 12), 14, .mv (.t 0), none, []⟩, ⟨(some 13), 15, .len false (.t 12), none, []⟩, ⟨(some 14), 16, .bin .lss (.t 11) (.t 13), none, []⟩])
  (.cond (.t 14)
  .skip
  (.exit 0)))
  (.seq (.block 1 (.seq (.draw [⟨(some 17), 19, .mv (.t 0), none, []⟩, ⟨(some 18), 20, .mv (.t 5), none, []⟩, ⟨(some 19), 21, .iaddr 2 (.t 17) (.t 18), none, []⟩, ⟨(some 20), 22, .load true 2 (.t 19), none, []⟩, ⟨(some 21), 23, .mv (.t 1), none, []⟩, ⟨(some 22), 24, .mv (.t 5), none, []⟩, ⟨(some 23), 25, .iaddr 2 (.t 21) (.t 22), none, []⟩, ⟨(some 24), 26, .load true 2 (.t 23), none, []⟩, ⟨(some 25), 27, .call 94 [((.t 20), 0), ((.t 24), 0)], none, []⟩, ⟨(some 26), 28, .un .not (.t 25), none, []⟩])
  (.cond (.t 26)
  (.seq (.ops [⟨(some 4), 6, .mv (.c (.b false)), none, []⟩])
  .ret)
  .skip)))
  (.ops [⟨(some 15), 17, .mv (.t 5), none, []⟩, ⟨(some 16), 18, .bin .add (.t 15) (.c (.i .i64 1)), none, []⟩, ⟨(some 5), 7, .mv (.t 16), none, []⟩]))))))
  (.seq (.ops [⟨(some 4), 6, .mv (.c (.b true)), none, []⟩])
  .ret))))
theorem k54 : compCode Try.prog Try.f54.ntmps Try.f54.body.get! = some c54 := by kernel_rfl
theorem r54 : resTmps Try.prog Try.f54.results.toList = some [.tmp 4] := by kernel_rfl
/- laws.markEntS -/
def c57 : TCode := (.seq (.ops [⟨(some 4), 6, .mv (.c (.i .i64 0)), none, []⟩])
  (.seq (.seq (.ops [⟨(some 5), 7, .mv (.c (.i .i64 0)), none, []⟩])
  (.block 0 (.loop (.seq (.seq (.ops [⟨(some 6), 8, .mv (.t 5), none, []⟩, ⟨(some 7), 9, .mv (.t 0), none, []⟩, ⟨(some 8), 10, .len false (.t 7), none, []⟩, ⟨(some 9), 11, .bin .lss (.t 6) (.t 8), none, []⟩])
  (.cond (.t 9)
  .skip
  (.exit 0)))
  (.seq (.block 1 (.seq (.ops [⟨(some 12), 14, .mv (.t 0), none, []⟩, ⟨(some 13), 15, .mv (.t 5), none, []⟩, ⟨(some 14), 16, .mv (.t 1), none, []⟩, ⟨(some 15), 17, .iaddr 2 (.t 12) (.t 13), none, []⟩, ⟨(some 16), 18, .faddr 0 1 (.t 15), none, []⟩, ⟨none, 1004005, .store 1 (.t 16) (.t 14), none, []⟩])
  (.seq (.ops [⟨(some 17), 19, .mv (.t 1), none, []⟩, ⟨(some 18), 20, .bin .add (.t 17) (.c (.i .i64 1)), none, []⟩, ⟨(some 1), 3, .mv (.t 18), none, []⟩])
  (.seq (.ops [⟨(some 19), 21, .mv (.t 0), none, []⟩, ⟨(some 20), 22, .mv (.t 5), none, []⟩, ⟨(some 21), 23, .mv (.t 1), none, []⟩, ⟨(some 22), 24, .iaddr 2 (.t 19) (.t 20), none, []⟩, ⟨(some 23), 25, .faddr 1 1 (.t 22), none, []⟩, ⟨none, 1006005, .store 1 (.t 23) (.t 21), none, []⟩])
  (.ops [⟨(some 24), 26, .mv (.t 1), none, []⟩, ⟨(some 25), 27, .bin .add (.t 24) (.c (.i .i64 1)), none, []⟩, ⟨(some 1), 3, .mv (.t 25), none, []⟩])))))
  (.ops [⟨(some 10), 12, .mv (.t 5), none, []⟩, ⟨(some 11), 13, .bin .add (.t 10) (.c (.i .i64 1)), none, []⟩, ⟨(some 5), 7, .mv (.t 11), none, []⟩]))))))
  (.seq (.ops [⟨(some 26), 28, .mv (.t 1), none, []⟩, ⟨(some 4), 6, .mv (.t 26), none, []⟩])
  .ret)))
theorem k57 : compCode Try.prog Try.f57.ntmps Try.f57.body.get! = some c57 := by kernel_rfl
theorem r57 : resTmps Try.prog Try.f57.results.toList = some [.tmp 4] := by kernel_rfl
/- laws.heldEntS -/
def c58 : TCode := (.seq (.ops [⟨(some 4), 6, .mv (.c (.i .i64 0)), none, []⟩])
  (.seq (.seq (.ops [⟨(some 5), 7, .mv (.c (.i .i64 0)), none, []⟩])
  (.block 0 (.loop (.seq (.seq (.ops [⟨(some 6), 8, .mv (.t 5), none, []⟩, ⟨(some 7), 9, .mv (.t 0), none, []⟩, ⟨(some 8), 10, .len false (.t 7), none, []⟩, ⟨(some 9), 11, .bin .lss (.t 6) (.t 8), none, []⟩])
  (.cond (.t 9)
  .skip
  (.exit 0)))
  (.seq (.block 1 (.seq (.seq (.ops [⟨(some 12), 14, .mv (.t 0), none, []⟩, ⟨(some 13), 15, .mv (.t 5), none, []⟩, ⟨(some 14), 16, .iaddr 2 (.t 12) (.t 13), none, []⟩, ⟨(some 15), 17, .faddr 0 1 (.t 14), none, []⟩, ⟨(some 16), 18, .load false 1 (.t 15), none, []⟩, ⟨(some 17), 19, .mv (.t 1), none, []⟩, ⟨(some 18), 20, .bin .neq (.t 16) (.t 17), none, []⟩])
  (.cond (.t 18)
  (.seq (.ops [⟨(some 4), 6, .mv (.c (.i .i64 (-1))), none, []⟩])
  .ret)
  .skip))
  (.seq (.ops [⟨(some 19), 21, .mv (.t 1), none, []⟩, ⟨(some 20), 22, .bin .add (.t 19) (.c (.i .i64 1)), none, []⟩, ⟨(some 1), 3, .mv (.t 20), none, []⟩])
  (.seq (.seq (.ops [⟨(some 21), 23, .mv (.t 0), none, []⟩, ⟨(some 22), 24, .mv (.t 5), none, []⟩, ⟨(some 23), 25, .iaddr 2 (.t 21) (.t 22), none, []⟩, ⟨(some 24), 26, .faddr 1 1 (.t 23), none, []⟩, ⟨(some 25), 27, .load false 1 (.t 24), none, []⟩, ⟨(some 26), 28, .mv (.t 1), none, []⟩, ⟨(some 27), 29, .bin .neq (.t 25) (.t 26), none, []⟩])
  (.cond (.t 27)
  (.seq (.ops [⟨(some 4), 6, .mv (.c (.i .i64 (-1))), none, []⟩])
  .ret)
  .skip))
  (.ops [⟨(some 28), 30, .mv (.t 1), none, []⟩, ⟨(some 29), 31, .bin .add (.t 28) (.c (.i .i64 1)), none, []⟩, ⟨(some 1), 3, .mv (.t 29), none, []⟩])))))
  (.ops [⟨(some 10), 12, .mv (.t 5), none, []⟩, ⟨(some 11), 13, .bin .add (.t 10) (.c (.i .i64 1)), none, []⟩, ⟨(some 5), 7, .mv (.t 11), none, []⟩]))))))
  (.seq (.ops [⟨(some 30), 32, .mv (.t 1), none, []⟩, ⟨(some 4), 6, .mv (.t 30), none, []⟩])
  .ret)))
theorem k58 : compCode Try.prog Try.f58.ntmps Try.f58.body.get! = some c58 := by kernel_rfl
theorem r58 : resTmps Try.prog Try.f58.results.toList = some [.tmp 4] := by kernel_rfl
/- spec.EntList -/
def c218 : TCode := (.seq (.ops [⟨(some 1), 3, .box 2 (.t 0), none, []⟩, ⟨(some 2), 4, .mv (.c (.sl true 2 [])), none, []⟩])
  (.seq (.ops [⟨(some 7), 9, .bslice 2 0 [(.i .i64 0), (.i .i64 0)] [], none, []⟩, ⟨(some 3), 5, .mv (.t 7), none, []⟩])
  (.seq (.seq (.ops [⟨(some 8), 10, .load true 2 (.t 1), none, []⟩, ⟨(some 9), 11, .call 234 [((.t 8), 0)], none, []⟩, ⟨(some 10), 12, .un .not (.t 9), none, []⟩])
  (.cond (.t 10)
  (.seq (.ops [⟨(some 11), 13, .mv (.t 3), none, []⟩, ⟨(some 2), 4, .mv (.t 11), none, []⟩])
  .ret)
  .skip))
  (.seq (.ops [⟨(some 12), 14, .faddr 0 1 (.t 1), none, []⟩, ⟨(some 13), 15, .load false 1 (.t 12), none, []⟩, ⟨(some 14), 16, .len false (.t 13), none, []⟩, ⟨(some 15), 17, .mkslice 1 1 [(.b false)] (.t 14) (.t 14), none, []⟩, ⟨(some 4), 6, .mv (.t 15), none, []⟩])
  (.seq (.seq (.ops [⟨(some 5), 7, .mv (.c (.i .i64 0)), none, []⟩])
  (.block 0 (.loop (.seq (.seq (.ops [⟨(some 16), 18, .mv (.t 5), none, []⟩, ⟨(some 17), 19, .faddr 1 1 (.t 1), none, []⟩, ⟨(some 18), 20, .load false 1 (.t 17), none, []⟩, ⟨(some 19), 21, .len false (.t 18), none, []⟩, ⟨(some 20), 22, .bin .lss (.t 16) (.t 19), none, []⟩])
  (.cond (.t 20)
  .skip
  (.exit 0)))
  (.seq (.block 1 (.ops [⟨(some 23), 25, .mv (.t 4), none, []⟩, ⟨(some 24), 26, .faddr 1 1 (.t 1), none, []⟩, ⟨(some 25), 27, .load false 1 (.t 24), none, []⟩, ⟨(some 26), 28, .mv (.t 5), none, []⟩, ⟨(some 27), 29, .iaddr 1 (.t 25) (.t 26), none, []⟩, ⟨(some 28), 30, .load false 1 (.t 27), none, []⟩, ⟨(some 29), 31, .iaddr 1 (.t 23) (.t 28), none, []⟩, ⟨none, 1008007, .store 1 (.t 29) (.c (.b true)), none, []⟩]))
  (.ops [⟨(some 21), 23, .mv (.t 5), none, []⟩, ⟨(some 22), 24, .bin .add (.t 21) (.c (.i .i64 1)), none, []⟩, ⟨(some 5), 7, .mv (.t 22), none, []⟩]))))))
  (.seq (.seq (.ops [⟨(some 6), 8, .mv (.c (.i .i64 0)), none, []⟩])
  (.block 2 (.loop (.seq (.seq (.ops [⟨(some 30), 32, .mv (.t 6), none, []⟩, ⟨(some 31), 33, .faddr 0 1 (.t 1), none, []⟩, ⟨(some 32), 34, .load false 1 (.t 31), none, []⟩, ⟨(some 33), 35, .len false (.t 32), none, []⟩, ⟨(some 34), 36, .bin .lss (.t 30) (.t 33), none, []⟩])
  (.cond (.t 34)
  .skip
  (.exit 2)))
  (.seq (.block 3 (.seq (.ops [⟨(some 37), 39, .mv (.t 4), none, []⟩, ⟨(some 38), 40, .mv (.t 6), none, []⟩, ⟨(some 39), 41, .iaddr 1 (.t 37) (.t 38), none, []⟩, ⟨(some 40), 42, .load false 1 (.t 39), none, []⟩, ⟨(some 41), 43, .un .not (.t 40), none, []⟩])
  (.cond (.t 41)
  (.ops [⟨(some 42), 44, .mv (.t 3), none, []⟩, ⟨(some 43), 45, .mv (.t 6), none, []⟩, ⟨(some 44), 46, .faddr 0 1 (.t 1), none, []⟩, ⟨(some 45), 47, .load false 1 (.t 44), none, []⟩, ⟨(some 46), 48, .mv (.t 6), none, []⟩, ⟨(some 47), 49, .iaddr 1 (.t 45) (.t 46), none, []⟩, ⟨(some 48), 50, .load false 1 (.t 47), none, []⟩, ⟨(some 49), 51, .build [(.i .i64 0), (.i .i64 0)] [(0, 1, (.t 43)), (1, 1, (.t 48))], none, []⟩, ⟨(some 50), 52, .bslice 2 1 [(.i .i64 0), (.i .i64 0)] [(0, (.t 49))], none, []⟩, ⟨(some 51), 53, .app 2 16 (.t 42) (.t 50), none, []⟩, ⟨(some 3), 5, .mv (.t 51), none, []⟩])
  .skip)))
  (.ops [⟨(some 35), 37, .mv (.t 6), none, []⟩, ⟨(some 36), 38, .bin .add (.t 35) (.c (.i .i64 1)), none, []⟩, ⟨(some 6), 8, .mv (.t 36), none, []⟩]))))))
  (.seq (.ops [⟨(some 52), 54, .mv (.t 3), none, []⟩, ⟨(some 2), 4, .mv (.t 52), none, []⟩])
  .ret)))))))
theorem k218 : compCode Try.prog Try.f218.ntmps Try.f218.body.get! = some c218 := by kernel_rfl
theorem r218 : resTmps Try.prog Try.f218.results.toList = some [.tmp 2] := by kernel_rfl

@[simp] def eT (p : Int × Int) : List TV := [.i .i64 p.1, .i .i64 p.2]
@[simp] theorem fzL_eT (p : Int × Int) : fzL (eT p) = eT p := rfl
@[simp] theorem fzLL_eT (l : List (Int × Int)) : fzLL (l.map eT) = l.map eT := fzLL_map fzL_eT l
@[simp] theorem noROLL_eT (l : List (Int × Int)) : noROLL (l.map eT) = true := noROLL_map (fun _ => rfl) l
@[simp] theorem noref_eT (l : List (Int × Int)) : (l.map eT).all (·.all noref) = true := noref_map (fun _ => rfl) l
@[simp] theorem srcT_eT (H : Hp) (z : Nat) (l : List (Int × Int)) : srcT H (.sl false z (l.map eT)) = some (z, l.map eT, H, []) := by simp only [srcT, noref_eT, if_true]

theorem w54 (a b : List (Int × Int)) (ha : a.length ≤ 2^40) (hb : b.length ≤ 2^40) : Contract Try.prog false 54 [.ro, .ro] [.sl false 2 (a.map eT), .sl false 2 (b.map eT)] [.b (decide (a = b))] [] := by
  refine mk_contract [] Try.func54 (c := Try.f54.body.get!) (by kernel_rfl) k54 r54 (of_decide_eq_true rfl) fun _ => ?_
  unfold c54; simp
  refine ⟨fun h => ?_, fun h => ?_⟩
  · refine twp_for a.length (fun j s => s.t 0 = .sl false 2 (a.map eT) ∧ s.t 1 = .sl false 2 (b.map eT) ∧ s.t 5 = .i .i64 j ∧ a.take j = b.take j ∧ s.H = lk [(1, [])]) [] (by simp) ?_ ?_
    · simp
    · rintro j s hj ⟨q0, q1, q5, hab, qH⟩
      rw [nf_of qH]
      simp [q0, q1, q5]
      refine ⟨fun hlt => ?_, fun hge => ?_⟩
      · have hw : IntKind.i64.wrap (j + 1) = j + 1 := wrap_id (by omega) (by omega)
        obtain ⟨x, hx⟩ := get_some hlt
        obtain ⟨y, hy⟩ := get_some (l := b) (j := j) (by omega)
        simp [hx, hy, hw, q0, q1, q5]
        by_cases hxy : x = y
        · refine callW_ms [.ro, .ro] ?_
          simp [entT]
          refine callX_of ((w94 x.1 x.2 y.1 y.2).t ⟨by rw [hxy], by rw [hxy]⟩) (by simp) ?_
          simp [hw, q0, q1, q5]
          exact ⟨hlt, by rw [take_snoc hx, take_snoc hy, hab, hxy]⟩
        · refine callW_ms [.ro, .ro] ?_
          simp [entT]
          refine callX_of ((w94 x.1 x.2 y.1 y.2).f (fun h => hxy (Prod.ext h.1 h.2))) (by simp) ?_
          simp [hw, q0, q1, q5]
          intro hab2; subst hab2; rw [hx] at hy; cases hy; exact absurd rfl hxy
      · obtain rfl : j = a.length := by omega
        rw [List.take_of_length_le (Nat.le_refl _), List.take_of_length_le (by omega)] at hab
        exact hab
  · rintro rfl; exact h rfl
theorem w57 (l : List (Int × Int)) (k : Int) (hl : l.length ≤ 2^38) (hk : 0 ≤ k) (hk2 : k ≤ 2^40) : Contract Try.prog false 57 [.own, .ro] [.sl true 2 (l.map eT), .i .i64 k] [.i .i64 (k + 2 * l.length)] [some (.sl true 2 ((mkL 2 (fun k => (k, k + 1)) k l.length).map eT))] := by
  refine mk_contract [some [(1, 0)]] Try.func57 (c := Try.f57.body.get!) (by kernel_rfl) k57 r57 (of_decide_eq_true rfl) fun _ => ?_
  unfold c57; simp
  refine twp_for l.length (fun j s => s.t 0 = .rf [(1, 0)] 0 l.length ∧ s.t 1 = .i .i64 (k + 2 * j) ∧ s.t 5 = .i .i64 j ∧ s.H = lk [(1, [.sl true 2 ((mkL 2 (fun k => (k, k + 1)) k j).map eT ++ (l.map eT).drop j)])]) [] (by simp) ?_ ?_
  · simp
  · rintro j s hj ⟨q0, q1, q5, qH⟩
    rw [nf_of qH]
    simp [q0, q1, q5]
    refine ⟨fun hlt => ?_, fun hge => ?_⟩
    · have hw : IntKind.i64.wrap (j + 1) = j + 1 := wrap_id (by omega) (by omega)
      obtain ⟨x, hx⟩ := get_some hlt
      have hw1 : IntKind.i64.wrap (k + 2 * j + 1) = k + 2 * j + 1 := wrap_id (by omega) (by omega)
      have hw2 : IntKind.i64.wrap (k + 2 * j + 1 + 1) = k + 2 * j + 1 + 1 := wrap_id (by omega) (by omega)
      simp [hw, hw1, hw2, q0, q1, q5, drop_at hx]
      omega
    · obtain rfl : j = l.length := by omega
      simp [q0, q1, q5]
theorem w58 (n : Nat) (k : Int) (hl : n ≤ 2^38) (hk : 0 ≤ k) (hk2 : k ≤ 2^40) : Contract Try.prog false 58 [.ro, .ro] [.sl false 2 ((mkL 2 (fun k => (k, k + 1)) k n).map eT), .i .i64 k] [.i .i64 (k + 2 * n)] [] := by
  refine mk_contract [] Try.func58 (c := Try.f58.body.get!) (by kernel_rfl) k58 r58 (of_decide_eq_true rfl) fun _ => ?_
  unfold c58; simp
  refine twp_for n (fun j s => s.t 0 = .sl false 2 ((mkL 2 (fun k => (k, k + 1)) k n).map eT) ∧ s.t 1 = .i .i64 (k + 2 * j) ∧ s.t 5 = .i .i64 j ∧ s.H = lk [(1, [])]) [] (by simp) ?_ ?_
  · simp
  · rintro j s hj ⟨q0, q1, q5, qH⟩
    rw [nf_of qH]
    simp [q0, q1, q5]
    refine ⟨fun hlt => ?_, fun hge => ?_⟩
    · have hw : IntKind.i64.wrap (j + 1) = j + 1 := wrap_id (by omega) (by omega)
      have hx := mkL_get 2 (fun k => (k, k + 1)) k hlt
      have hw1 : IntKind.i64.wrap (k + 2 * j + 1) = k + 2 * j + 1 := wrap_id (by omega) (by omega)
      have hw2 : IntKind.i64.wrap (k + 2 * j + 1 + 1) = k + 2 * j + 1 + 1 := wrap_id (by omega) (by omega)
      simp [hx, hw, hw1, hw2, q0, q1, q5]
      omega
    · obtain rfl : j = n := by omega
      simp [q0, q1, q5]

/-- The places that are not free, with their gens. -/
def liveG (g f : List Int) : Nat → List (Int × Int)
  | 0 => []
  | n + 1 => liveG g f n ++ (if (n : Int) ∈ f then [] else [((n : Int), (g[n]?).getD 0)])
theorem liveG_len (g f : List Int) (n : Nat) : (liveG g f n).length ≤ n := by
  induction n with
  | zero => simp [liveG]
  | succ n ih => simp only [liveG, List.length_append]; split <;> simp <;> omega
def entListF (g f : List Int) : List (Int × Int) := if EntsOkP g f then liveG g f g.length else []
theorem entListF_len (g f : List Int) : (entListF g f).length ≤ g.length := by
  unfold entListF; split
  · exact liveG_len ..
  · simp
theorem w218 (g f : List Int) (hg : g.length ≤ 2^40) (hf : f.length ≤ 2^40) : Contract Try.prog false 218 [.ro] [entsR g f] [.sl true 2 ((entListF g f).map eT)] [] := by
  refine mk_contract [] Try.func218 (c := Try.f218.body.get!) (by kernel_rfl) k218 r218 (of_decide_eq_true rfl) fun _ => ?_
  unfold c218; unfold entsR; simp
  refine callW_ms [.ro] ?_
  simp
  refine callX_of (w234 g f hg hf) (by simp) ?_
  simp
  refine ⟨fun hE => ?_, fun hE => ?_⟩
  · refine ⟨by omega, ?_⟩
    refine twp_for f.length (fun j s => s.t 1 = .pt [(3, 0)] 0 0 ∧ s.t 3 = .rf [(9, 0)] 0 0 ∧ s.t 4 = .rf [(17, 0)] 0 g.length ∧ s.t 5 = .i .i64 j ∧ s.H = lk [(1, []), (3, [.po true [.sl false 1 (g.map iT), .sl false 1 (f.map iT)]]), (9, [.sl true 2 []]), (17, [.sl true 1 ((freeL g.length (f.take j)).map bT)])]) [] (by simp) ?_ ?_
    · simp
    · rintro j s hj ⟨q1, q3, q4, q5, qH⟩
      rw [nf_of qH]
      simp [q1, q3, q4, q5]
      refine ⟨fun hlt => ?_, fun hge => ?_⟩
      · have hw : IntKind.i64.wrap (j + 1) = j + 1 := wrap_id (by omega) (by omega)
        obtain ⟨x, hx⟩ := get_some hlt
        have hb := hE.2.1.1 x (List.mem_of_getElem? hx)
        have hgt := freeL_get (n := g.length) (f := f.take j) (x := x) hb.1 hb.2
        have hset : (List.map bT (freeL g.length (f.take j))).set x.toNat [.b true] = List.map bT (freeL g.length (f.take (j + 1))) := by
          rw [take_snoc hx, ← freeL_set hb.1 hb.2]; simp
        simp [hx, hw, q1, q3, q4, q5, hb.1, hb.2, hgt, hset]
        omega
      · obtain rfl : j = f.length := by omega
        simp [q1, q3, q4, q5]
        refine twp_forR g.length (fun j s => s.t 1 = .pt [(3, 0)] 0 0 ∧ s.t 3 = .rf [(53, 0)] 0 (liveG g f j).length ∧ s.t 4 = .rf [(17, 0)] 0 g.length ∧ s.t 6 = .i .i64 j ∧ s.H = lk [(1, []), (3, [.po true [.sl false 1 (g.map iT), .sl false 1 (f.map iT)]]), (53, [.sl true 2 ((liveG g f j).map eT)]), (17, [.sl true 1 ((freeL g.length f).map bT)])]) [52] [(9, 53)] (by simp) (by simp) ?_ ?_
        · simp [q1, q3, q4, liveG]
        · rintro j s hj ⟨q1, q3, q4, q6, qH⟩
          rw [nf_of qH]
          simp [q1, q3, q4, q6]
          refine ⟨fun hlt => ?_, fun hge => ?_⟩
          · have hw : IntKind.i64.wrap (j + 1) = j + 1 := wrap_id (by omega) (by omega)
            obtain ⟨x, hx⟩ := get_some hlt
            have hgt := freeL_get (n := g.length) (f := f) (x := j) (by omega) (by omega)
            simp at hgt
            have hll := liveG_len g f j
            simp [hx, hw, q1, q3, q4, q6, hgt]
            refine ⟨hlt, fun h => ?_, fun h => ?_⟩
            · simp [liveG, h, hlt]
            · refine ⟨by omega, hlt, ?_⟩; simp [liveG, h, hx]
          · obtain rfl : j = g.length := by omega
            simp [q1, q3, q4, q6, entListF, hE]
  · simp [entListF, hE]
end Go.Proofs.YtmedelmfkciblaaT

/- Names and declarations. -/
namespace Go.Proofs.YtmedelmfkciblaaT
set_option linter.unusedVariables false
set_option linter.unusedSimpArgs false
open Go

/- spec.l3Letter -/
def c185 : TCode := (.seq (.ops [⟨(some 2), 4, .mv (.c (.b false)), none, []⟩])
  (.seq (.ops [⟨(some 3), 5, .mv (.t 0), none, []⟩, ⟨(some 4), 6, .bin .geq (.t 3) (.c (.i .u8 97)), none, []⟩, ⟨(some 5), 7, .mv (.t 4), none, []⟩, ⟨(some 6), 8, .mv (.t 0), (some (5, true)), []⟩, ⟨(some 7), 9, .bin .leq (.t 6) (.c (.i .u8 122)), (some (5, true)), []⟩, ⟨(some 8), 10, .pick (.t 5) (.t 7) (.c (.b false)), none, []⟩, ⟨(some 9), 11, .mv (.t 8), none, []⟩, ⟨(some 10), 12, .mv (.t 0), (some (9, false)), []⟩, ⟨(some 11), 13, .bin .geq (.t 10) (.c (.i .u8 65)), (some (9, false)), []⟩, ⟨(some 12), 14, .mv (.t 11), (some (9, false)), []⟩, ⟨(some 13), 15, .mv (.t 0), (some (12, true)), []⟩, ⟨(some 14), 16, .bin .leq (.t 13) (.c (.i .u8 90)), (some (12, true)), []⟩, ⟨(some 15), 17, .pick (.t 12) (.t 14) (.c (.b false)), (some (9, false)), []⟩, ⟨(some 16), 18, .pick (.t 9) (.c (.b true)) (.t 15), none, []⟩, ⟨(some 2), 4, .mv (.t 16), none, []⟩])
  .ret))
theorem k185 : compCode Try.prog Try.f185.ntmps Try.f185.body.get! = some c185 := by kernel_rfl
theorem r185 : resTmps Try.prog Try.f185.results.toList = some [.tmp 2] := by kernel_rfl
/- impl.isLetter -/
def c188 : TCode := (.seq (.ops [⟨(some 2), 4, .mv (.c (.b false)), none, []⟩])
  (.seq (.ops [⟨(some 3), 5, .mv (.t 0), none, []⟩, ⟨(some 4), 6, .bin .geq (.t 3) (.c (.i .u8 97)), none, []⟩, ⟨(some 5), 7, .mv (.t 4), none, []⟩, ⟨(some 6), 8, .mv (.t 0), (some (5, true)), []⟩, ⟨(some 7), 9, .bin .leq (.t 6) (.c (.i .u8 122)), (some (5, true)), []⟩, ⟨(some 8), 10, .pick (.t 5) (.t 7) (.c (.b false)), none, []⟩, ⟨(some 9), 11, .mv (.t 8), none, []⟩, ⟨(some 10), 12, .mv (.t 0), (some (9, false)), []⟩, ⟨(some 11), 13, .bin .geq (.t 10) (.c (.i .u8 65)), (some (9, false)), []⟩, ⟨(some 12), 14, .mv (.t 11), (some (9, false)), []⟩, ⟨(some 13), 15, .mv (.t 0), (some (12, true)), []⟩, ⟨(some 14), 16, .bin .leq (.t 13) (.c (.i .u8 90)), (some (12, true)), []⟩, ⟨(some 15), 17, .pick (.t 12) (.t 14) (.c (.b false)), (some (9, false)), []⟩, ⟨(some 16), 18, .pick (.t 9) (.c (.b true)) (.t 15), none, []⟩, ⟨(some 2), 4, .mv (.t 16), none, []⟩])
  .ret))
theorem k188 : compCode Try.prog Try.f188.ntmps Try.f188.body.get! = some c188 := by kernel_rfl
theorem r188 : resTmps Try.prog Try.f188.results.toList = some [.tmp 2] := by kernel_rfl
/- spec.l3Words -/
def c222 : TCode := (.seq (.ops [⟨(some 0), 2, .mv (.c (.sl true 1 [])), none, []⟩])
  (.seq (.ops [⟨(some 1), 3, .bslice 1 32 [(.s ⟨#[]⟩)] [(0, (.c (.s ⟨#[115, 121, 115, 116, 101, 109]⟩))), (1, (.c (.s ⟨#[102, 110]⟩))), (2, (.c (.s ⟨#[108, 101, 116]⟩))), (3, (.c (.s ⟨#[105, 102]⟩))), (4, (.c (.s ⟨#[101, 108, 115, 101]⟩))), (5, (.c (.s ⟨#[108, 111, 111, 112]⟩))), (6, (.c (.s ⟨#[101, 97, 99, 104]⟩))), (7, (.c (.s ⟨#[119, 105, 116, 104]⟩))), (8, (.c (.s ⟨#[119, 105, 116, 104, 111, 117, 116]⟩))), (9, (.c (.s ⟨#[101, 109, 105, 116]⟩))), (10, (.c (.s ⟨#[104, 101, 97, 114]⟩))), (11, (.c (.s ⟨#[97, 115]⟩))), (12, (.c (.s ⟨#[115, 112, 97, 119, 110]⟩))), (13, (.c (.s ⟨#[107, 105, 108, 108]⟩))), (14, (.c (.s ⟨#[112, 117, 116]⟩))), (15, (.c (.s ⟨#[100, 114, 111, 112]⟩))), (16, (.c (.s ⟨#[100, 111]⟩))), (17, (.c (.s ⟨#[114, 101, 116, 117, 114, 110]⟩))), (18, (.c (.s ⟨#[112, 105, 99, 107]⟩))), (19, (.c (.s ⟨#[111, 102]⟩))), (20, (.c (.s ⟨#[121, 101, 115]⟩))), (21, (.c (.s ⟨#[110, 111]⟩))), (22, (.c (.s ⟨#[97, 110, 100]⟩))), (23, (.c (.s ⟨#[111, 114]⟩))), (24, (.c (.s ⟨#[110, 111, 116]⟩))), (25, (.c (.s ⟨#[105, 110, 116]⟩))), (26, (.c (.s ⟨#[114, 101, 97, 108]⟩))), (27, (.c (.s ⟨#[112, 97, 105, 114]⟩))), (28, (.c (.s ⟨#[98, 111, 111, 108]⟩))), (29, (.c (.s ⟨#[114, 101]⟩))), (30, (.c (.s ⟨#[105, 109]⟩))), (31, (.c (.s ⟨#[115, 105, 122, 101]⟩)))], none, []⟩, ⟨(some 0), 2, .mv (.t 1), none, []⟩])
  .ret))
theorem k222 : compCode Try.prog Try.f222.ntmps Try.f222.body.get! = some c222 := by kernel_rfl
theorem r222 : resTmps Try.prog Try.f222.results.toList = some [.tmp 0] := by kernel_rfl
/- spec.IsWord -/
def c186 : TCode := (.seq (.ops [⟨(some 2), 4, .mv (.c (.b false)), none, []⟩])
  (.seq (.ops [⟨(some 5), 7, .call 222 [], none, []⟩, ⟨(some 3), 5, .mv (.t 5), none, []⟩])
  (.seq (.seq (.ops [⟨(some 4), 6, .mv (.c (.i .i64 0)), none, []⟩])
  (.block 0 (.loop (.seq (.seq (.ops [⟨(some 6), 8, .mv (.t 4), none, []⟩, ⟨(some 7), 9, .mv (.t 3), none, []⟩, ⟨(some 8), 10, .len false (.t 7), none, []⟩, ⟨(some 9), 11, .bin .lss (.t 6) (.t 8), none, []⟩])
  (.cond (.t 9)
  .skip
  (.exit 0)))
  (.seq (.block 1 (.seq (.ops [⟨(some 12), 14, .mv (.t 3), none, []⟩, ⟨(some 13), 15, .mv (.t 4), none, []⟩, ⟨(some 14), 16, .iaddr 1 (.t 12) (.t 13), none, []⟩, ⟨(some 15), 17, .load false 1 (.t 14), none, []⟩, ⟨(some 16), 18, .mv (.t 0), none, []⟩, ⟨(some 17), 19, .bin .eql (.t 15) (.t 16), none, []⟩])
  (.cond (.t 17)
  (.seq (.ops [⟨(some 2), 4, .mv (.c (.b true)), none, []⟩])
  .ret)
  .skip)))
  (.ops [⟨(some 10), 12, .mv (.t 4), none, []⟩, ⟨(some 11), 13, .bin .add (.t 10) (.c (.i .i64 1)), none, []⟩, ⟨(some 4), 6, .mv (.t 11), none, []⟩]))))))
  (.seq (.ops [⟨(some 2), 4, .mv (.c (.b false)), none, []⟩])
  .ret))))
theorem k186 : compCode Try.prog Try.f186.ntmps Try.f186.body.get! = some c186 := by kernel_rfl
theorem r186 : resTmps Try.prog Try.f186.results.toList = some [.tmp 2] := by kernel_rfl
/- impl.IsWord -/
def c189 : TCode := (.seq (.ops [⟨(some 2), 4, .mv (.c (.b false)), none, []⟩])
  (.seq (.seq (.ops [⟨(some 3), 5, .mv (.t 0), none, []⟩])
  (.block 0 (.seq (.seq (.ops [⟨(some 5), 7, .bin .eql (.t 3) (.c (.s ⟨#[115, 121, 115, 116, 101, 109]⟩)), none, []⟩, ⟨(some 4), 6, .mv (.t 5), none, []⟩])
  (.cond (.t 4)
  .skip
  (.seq (.ops [⟨(some 6), 8, .bin .eql (.t 3) (.c (.s ⟨#[102, 110]⟩)), none, []⟩, ⟨(some 4), 6, .mv (.t 6), none, []⟩])
  (.cond (.t 4)
  .skip
  (.seq (.ops [⟨(some 7), 9, .bin .eql (.t 3) (.c (.s ⟨#[108, 101, 116]⟩)), none, []⟩, ⟨(some 4), 6, .mv (.t 7), none, []⟩])
  (.cond (.t 4)
  .skip
  (.seq (.ops [⟨(some 8), 10, .bin .eql (.t 3) (.c (.s ⟨#[105, 102]⟩)), none, []⟩, ⟨(some 4), 6, .mv (.t 8), none, []⟩])
  (.cond (.t 4)
  .skip
  (.seq (.ops [⟨(some 9), 11, .bin .eql (.t 3) (.c (.s ⟨#[101, 108, 115, 101]⟩)), none, []⟩, ⟨(some 4), 6, .mv (.t 9), none, []⟩])
  (.cond (.t 4)
  .skip
  (.seq (.ops [⟨(some 10), 12, .bin .eql (.t 3) (.c (.s ⟨#[108, 111, 111, 112]⟩)), none, []⟩, ⟨(some 4), 6, .mv (.t 10), none, []⟩])
  (.cond (.t 4)
  .skip
  (.seq (.ops [⟨(some 11), 13, .bin .eql (.t 3) (.c (.s ⟨#[101, 97, 99, 104]⟩)), none, []⟩, ⟨(some 4), 6, .mv (.t 11), none, []⟩])
  (.cond (.t 4)
  .skip
  (.seq (.ops [⟨(some 12), 14, .bin .eql (.t 3) (.c (.s ⟨#[119, 105, 116, 104]⟩)), none, []⟩, ⟨(some 4), 6, .mv (.t 12), none, []⟩])
  (.cond (.t 4)
  .skip
  (.seq (.ops [⟨(some 13), 15, .bin .eql (.t 3) (.c (.s ⟨#[119, 105, 116, 104, 111, 117, 116]⟩)), none, []⟩, ⟨(some 4), 6, .mv (.t 13), none, []⟩])
  (.cond (.t 4)
  .skip
  (.seq (.ops [⟨(some 14), 16, .bin .eql (.t 3) (.c (.s ⟨#[101, 109, 105, 116]⟩)), none, []⟩, ⟨(some 4), 6, .mv (.t 14), none, []⟩])
  (.cond (.t 4)
  .skip
  (.seq (.ops [⟨(some 15), 17, .bin .eql (.t 3) (.c (.s ⟨#[104, 101, 97, 114]⟩)), none, []⟩, ⟨(some 4), 6, .mv (.t 15), none, []⟩])
  (.cond (.t 4)
  .skip
  (.seq (.ops [⟨(some 16), 18, .bin .eql (.t 3) (.c (.s ⟨#[97, 115]⟩)), none, []⟩, ⟨(some 4), 6, .mv (.t 16), none, []⟩])
  (.cond (.t 4)
  .skip
  (.seq (.ops [⟨(some 17), 19, .bin .eql (.t 3) (.c (.s ⟨#[115, 112, 97, 119, 110]⟩)), none, []⟩, ⟨(some 4), 6, .mv (.t 17), none, []⟩])
  (.cond (.t 4)
  .skip
  (.seq (.ops [⟨(some 18), 20, .bin .eql (.t 3) (.c (.s ⟨#[107, 105, 108, 108]⟩)), none, []⟩, ⟨(some 4), 6, .mv (.t 18), none, []⟩])
  (.cond (.t 4)
  .skip
  (.seq (.ops [⟨(some 19), 21, .bin .eql (.t 3) (.c (.s ⟨#[112, 117, 116]⟩)), none, []⟩, ⟨(some 4), 6, .mv (.t 19), none, []⟩])
  (.cond (.t 4)
  .skip
  (.seq (.ops [⟨(some 20), 22, .bin .eql (.t 3) (.c (.s ⟨#[100, 114, 111, 112]⟩)), none, []⟩, ⟨(some 4), 6, .mv (.t 20), none, []⟩])
  (.cond (.t 4)
  .skip
  (.seq (.ops [⟨(some 21), 23, .bin .eql (.t 3) (.c (.s ⟨#[100, 111]⟩)), none, []⟩, ⟨(some 4), 6, .mv (.t 21), none, []⟩])
  (.cond (.t 4)
  .skip
  (.seq (.ops [⟨(some 22), 24, .bin .eql (.t 3) (.c (.s ⟨#[114, 101, 116, 117, 114, 110]⟩)), none, []⟩, ⟨(some 4), 6, .mv (.t 22), none, []⟩])
  (.cond (.t 4)
  .skip
  (.seq (.ops [⟨(some 23), 25, .bin .eql (.t 3) (.c (.s ⟨#[112, 105, 99, 107]⟩)), none, []⟩, ⟨(some 4), 6, .mv (.t 23), none, []⟩])
  (.cond (.t 4)
  .skip
  (.seq (.ops [⟨(some 24), 26, .bin .eql (.t 3) (.c (.s ⟨#[111, 102]⟩)), none, []⟩, ⟨(some 4), 6, .mv (.t 24), none, []⟩])
  (.cond (.t 4)
  .skip
  (.seq (.ops [⟨(some 25), 27, .bin .eql (.t 3) (.c (.s ⟨#[121, 101, 115]⟩)), none, []⟩, ⟨(some 4), 6, .mv (.t 25), none, []⟩])
  (.cond (.t 4)
  .skip
  (.seq (.ops [⟨(some 26), 28, .bin .eql (.t 3) (.c (.s ⟨#[110, 111]⟩)), none, []⟩, ⟨(some 4), 6, .mv (.t 26), none, []⟩])
  (.cond (.t 4)
  .skip
  (.seq (.ops [⟨(some 27), 29, .bin .eql (.t 3) (.c (.s ⟨#[97, 110, 100]⟩)), none, []⟩, ⟨(some 4), 6, .mv (.t 27), none, []⟩])
  (.cond (.t 4)
  .skip
  (.seq (.ops [⟨(some 28), 30, .bin .eql (.t 3) (.c (.s ⟨#[111, 114]⟩)), none, []⟩, ⟨(some 4), 6, .mv (.t 28), none, []⟩])
  (.cond (.t 4)
  .skip
  (.seq (.ops [⟨(some 29), 31, .bin .eql (.t 3) (.c (.s ⟨#[110, 111, 116]⟩)), none, []⟩, ⟨(some 4), 6, .mv (.t 29), none, []⟩])
  (.cond (.t 4)
  .skip
  (.seq (.ops [⟨(some 30), 32, .bin .eql (.t 3) (.c (.s ⟨#[105, 110, 116]⟩)), none, []⟩, ⟨(some 4), 6, .mv (.t 30), none, []⟩])
  (.cond (.t 4)
  .skip
  (.seq (.ops [⟨(some 31), 33, .bin .eql (.t 3) (.c (.s ⟨#[114, 101, 97, 108]⟩)), none, []⟩, ⟨(some 4), 6, .mv (.t 31), none, []⟩])
  (.cond (.t 4)
  .skip
  (.seq (.ops [⟨(some 32), 34, .bin .eql (.t 3) (.c (.s ⟨#[112, 97, 105, 114]⟩)), none, []⟩, ⟨(some 4), 6, .mv (.t 32), none, []⟩])
  (.cond (.t 4)
  .skip
  (.seq (.ops [⟨(some 33), 35, .bin .eql (.t 3) (.c (.s ⟨#[98, 111, 111, 108]⟩)), none, []⟩, ⟨(some 4), 6, .mv (.t 33), none, []⟩])
  (.cond (.t 4)
  .skip
  (.seq (.ops [⟨(some 34), 36, .bin .eql (.t 3) (.c (.s ⟨#[114, 101]⟩)), none, []⟩, ⟨(some 4), 6, .mv (.t 34), none, []⟩])
  (.cond (.t 4)
  .skip
  (.seq (.ops [⟨(some 35), 37, .bin .eql (.t 3) (.c (.s ⟨#[105, 109]⟩)), none, []⟩, ⟨(some 4), 6, .mv (.t 35), none, []⟩])
  (.cond (.t 4)
  .skip
  (.ops [⟨(some 36), 38, .bin .eql (.t 3) (.c (.s ⟨#[115, 105, 122, 101]⟩)), none, []⟩, ⟨(some 4), 6, .mv (.t 36), none, []⟩])))))))))))))))))))))))))))))))))))))))))))))))))))))))))))))))
  (.cond (.t 4)
  (.seq (.ops [⟨(some 2), 4, .mv (.c (.b true)), none, []⟩])
  .ret)
  .skip))))
  (.seq (.ops [⟨(some 2), 4, .mv (.c (.b false)), none, []⟩])
  .ret)))
theorem k189 : compCode Try.prog Try.f189.ntmps Try.f189.body.get! = some c189 := by kernel_rfl
theorem r189 : resTmps Try.prog Try.f189.results.toList = some [.tmp 2] := by kernel_rfl
/- spec.NameOk -/
def c145 : TCode := (.seq (.ops [⟨(some 2), 4, .mv (.c (.b false)), none, []⟩])
  (.seq (.seq (.ops [⟨(some 4), 6, .mv (.t 0), none, []⟩, ⟨(some 5), 7, .len true (.t 4), none, []⟩, ⟨(some 6), 8, .call 87 [((.t 5), 0), ((.c (.i .i64 1)), 0), ((.c (.i .i64 12)), 0)], none, []⟩, ⟨(some 7), 9, .un .not (.t 6), none, []⟩])
  (.cond (.t 7)
  (.seq (.ops [⟨(some 2), 4, .mv (.c (.b false)), none, []⟩])
  .ret)
  .skip))
  (.seq (.seq (.ops [⟨(some 3), 5, .mv (.c (.i .i64 0)), none, []⟩])
  (.block 0 (.loop (.seq (.seq (.ops [⟨(some 8), 10, .mv (.t 3), none, []⟩, ⟨(some 9), 11, .mv (.t 0), none, []⟩, ⟨(some 10), 12, .len true (.t 9), none, []⟩, ⟨(some 11), 13, .bin .lss (.t 8) (.t 10), none, []⟩])
  (.cond (.t 11)
  .skip
  (.exit 0)))
  (.seq (.block 1 (.seq (.ops [⟨(some 14), 16, .mv (.t 0), none, []⟩, ⟨(some 15), 17, .mv (.t 3), none, []⟩, ⟨(some 16), 18, .ix (.t 14) (.t 15), none, []⟩, ⟨(some 17), 19, .call 185 [((.t 16), 0)], none, []⟩, ⟨(some 18), 20, .un .not (.t 17), none, []⟩])
  (.cond (.t 18)
  (.seq (.ops [⟨(some 2), 4, .mv (.c (.b false)), none, []⟩])
  .ret)
  .skip)))
  (.ops [⟨(some 12), 14, .mv (.t 3), none, []⟩, ⟨(some 13), 15, .bin .add (.t 12) (.c (.i .i64 1)), none, []⟩, ⟨(some 3), 5, .mv (.t 13), none, []⟩]))))))
  (.seq (.ops [⟨(some 19), 21, .mv (.t 0), none, []⟩, ⟨(some 20), 22, .call 186 [((.t 19), 0)], none, []⟩, ⟨(some 21), 23, .un .not (.t 20), none, []⟩, ⟨(some 2), 4, .mv (.t 21), none, []⟩])
  .ret))))
theorem k145 : compCode Try.prog Try.f145.ntmps Try.f145.body.get! = some c145 := by kernel_rfl
theorem r145 : resTmps Try.prog Try.f145.results.toList = some [.tmp 2] := by kernel_rfl
/- impl.NameOk -/
def c149 : TCode := (.seq (.ops [⟨(some 2), 4, .mv (.c (.b false)), none, []⟩])
  (.seq (.seq (.ops [⟨(some 3), 5, .mv (.c (.i .i64 0)), none, []⟩])
  (.block 0 (.loop (.seq (.seq (.ops [⟨(some 4), 6, .mv (.t 3), none, []⟩, ⟨(some 5), 7, .mv (.t 0), none, []⟩, ⟨(some 6), 8, .len true (.t 5), none, []⟩, ⟨(some 7), 9, .bin .lss (.t 4) (.t 6), none, []⟩])
  (.cond (.t 7)
  .skip
  (.exit 0)))
  (.seq (.block 1 (.seq (.ops [⟨(some 10), 12, .mv (.t 0), none, []⟩, ⟨(some 11), 13, .mv (.t 3), none, []⟩, ⟨(some 12), 14, .ix (.t 10) (.t 11), none, []⟩, ⟨(some 13), 15, .call 188 [((.t 12), 0)], none, []⟩, ⟨(some 14), 16, .un .not (.t 13), none, []⟩])
  (.cond (.t 14)
  (.seq (.ops [⟨(some 2), 4, .mv (.c (.b false)), none, []⟩])
  .ret)
  .skip)))
  (.ops [⟨(some 8), 10, .mv (.t 3), none, []⟩, ⟨(some 9), 11, .bin .add (.t 8) (.c (.i .i64 1)), none, []⟩, ⟨(some 3), 5, .mv (.t 9), none, []⟩]))))))
  (.seq (.ops [⟨(some 15), 17, .mv (.t 0), none, []⟩, ⟨(some 16), 18, .len true (.t 15), none, []⟩, ⟨(some 17), 19, .call 154 [((.t 16), 0), ((.c (.i .i64 1)), 0), ((.c (.i .i64 12)), 0)], none, []⟩, ⟨(some 18), 20, .mv (.t 17), none, []⟩, ⟨(some 19), 21, .mv (.t 0), (some (18, true)), []⟩, ⟨(some 20), 22, .call 189 [((.t 19), 0)], (some (18, true)), []⟩, ⟨(some 21), 23, .un .not (.t 20), (some (18, true)), []⟩, ⟨(some 22), 24, .pick (.t 18) (.t 21) (.c (.b false)), none, []⟩, ⟨(some 2), 4, .mv (.t 22), none, []⟩])
  .ret)))
theorem k149 : compCode Try.prog Try.f149.ntmps Try.f149.body.get! = some c149 := by kernel_rfl
theorem r149 : resTmps Try.prog Try.f149.results.toList = some [.tmp 2] := by kernel_rfl
/- laws.szDecl -/
def c144 : TCode := (.seq (.ops [⟨(some 2), 4, .box 2 (.t 0), none, []⟩, ⟨(some 4), 6, .mv (.c (.i .i64 0)), none, []⟩])
  (.seq (.ops [⟨(some 5), 7, .mv (.t 1), none, []⟩, ⟨(some 6), 8, .faddr 0 1 (.t 2), none, []⟩, ⟨(some 7), 9, .load false 1 (.t 6), none, []⟩, ⟨(some 8), 10, .len true (.t 7), none, []⟩, ⟨(some 9), 11, .bin .sub (.t 5) (.t 8), none, []⟩, ⟨(some 1), 3, .mv (.t 9), none, []⟩])
  (.seq (.seq (.ops [⟨(some 10), 12, .mv (.t 1), none, []⟩, ⟨(some 11), 13, .bin .lss (.t 10) (.c (.i .i64 0)), none, []⟩])
  (.cond (.t 11)
  (.seq (.ops [⟨(some 4), 6, .mv (.c (.i .i64 (-1))), none, []⟩])
  .ret)
  .skip))
  (.seq (.ops [⟨(some 12), 14, .mv (.t 1), none, []⟩, ⟨(some 4), 6, .mv (.t 12), none, []⟩])
  .ret))))
theorem k144 : compCode Try.prog Try.f144.ntmps Try.f144.body.get! = some c144 := by kernel_rfl
theorem r144 : resTmps Try.prog Try.f144.results.toList = some [.tmp 4] := by kernel_rfl
/- laws.szDeclS -/
def c82 : TCode := (.seq (.ops [⟨(some 4), 6, .mv (.c (.i .i64 0)), none, []⟩])
  (.seq (.ops [⟨(some 6), 8, .mv (.t 1), none, []⟩, ⟨(some 7), 9, .mv (.t 0), none, []⟩, ⟨(some 8), 10, .len false (.t 7), none, []⟩, ⟨(some 9), 11, .bin .sub (.t 6) (.t 8), none, []⟩, ⟨(some 1), 3, .mv (.t 9), none, []⟩])
  (.seq (.seq (.ops [⟨(some 10), 12, .mv (.t 1), none, []⟩, ⟨(some 11), 13, .bin .lss (.t 10) (.c (.i .i64 0)), none, []⟩])
  (.cond (.t 11)
  (.seq (.ops [⟨(some 4), 6, .mv (.c (.i .i64 (-1))), none, []⟩])
  .ret)
  .skip))
  (.seq (.seq (.ops [⟨(some 5), 7, .mv (.c (.i .i64 0)), none, []⟩])
  (.block 0 (.loop (.seq (.seq (.ops [⟨(some 12), 14, .mv (.t 5), none, []⟩, ⟨(some 13), 15, .mv (.t 0), none, []⟩, ⟨(some 14), 16, .len false (.t 13), none, []⟩, ⟨(some 15), 17, .bin .lss (.t 12) (.t 14), none, []⟩])
  (.cond (.t 15)
  .skip
  (.exit 0)))
  (.seq (.block 1 (.seq (.ops [⟨(some 18), 20, .mv (.t 0), none, []⟩, ⟨(some 19), 21, .mv (.t 5), none, []⟩, ⟨(some 20), 22, .iaddr 2 (.t 18) (.t 19), none, []⟩, ⟨(some 21), 23, .load true 2 (.t 20), none, []⟩, ⟨(some 22), 24, .mv (.t 1), none, []⟩, ⟨(some 23), 25, .call 144 [((.t 21), 0), ((.t 22), 0)], none, []⟩, ⟨(some 1), 3, .mv (.t 23), none, []⟩])
  (.seq (.ops [⟨(some 24), 26, .mv (.t 1), none, []⟩, ⟨(some 25), 27, .bin .lss (.t 24) (.c (.i .i64 0)), none, []⟩])
  (.cond (.t 25)
  (.seq (.ops [⟨(some 4), 6, .mv (.c (.i .i64 (-1))), none, []⟩])
  .ret)
  .skip))))
  (.ops [⟨(some 16), 18, .mv (.t 5), none, []⟩, ⟨(some 17), 19, .bin .add (.t 16) (.c (.i .i64 1)), none, []⟩, ⟨(some 5), 7, .mv (.t 17), none, []⟩]))))))
  (.seq (.ops [⟨(some 26), 28, .mv (.t 1), none, []⟩, ⟨(some 4), 6, .mv (.t 26), none, []⟩])
  .ret)))))
theorem k82 : compCode Try.prog Try.f82.ntmps Try.f82.body.get! = some c82 := by kernel_rfl
theorem r82 : resTmps Try.prog Try.f82.results.toList = some [.tmp 4] := by kernel_rfl
/- laws.szReg -/
def c41 : TCode := (.seq (.ops [⟨(some 2), 4, .box 3 (.t 0), none, []⟩, ⟨(some 4), 6, .mv (.c (.i .i64 0)), none, []⟩])
  (.seq (.ops [⟨(some 5), 7, .faddr 0 1 (.t 2), none, []⟩, ⟨(some 6), 8, .load false 1 (.t 5), none, []⟩, ⟨(some 7), 9, .mv (.t 1), none, []⟩, ⟨(some 8), 10, .call 82 [((.t 6), 0), ((.t 7), 0)], none, []⟩, ⟨(some 1), 3, .mv (.t 8), none, []⟩])
  (.seq (.seq (.ops [⟨(some 9), 11, .mv (.t 1), none, []⟩, ⟨(some 10), 12, .bin .lss (.t 9) (.c (.i .i64 0)), none, []⟩])
  (.cond (.t 10)
  (.seq (.ops [⟨(some 4), 6, .mv (.c (.i .i64 (-1))), none, []⟩])
  .ret)
  .skip))
  (.seq (.ops [⟨(some 11), 13, .faddr 1 1 (.t 2), none, []⟩, ⟨(some 12), 14, .load false 1 (.t 11), none, []⟩, ⟨(some 13), 15, .mv (.t 1), none, []⟩, ⟨(some 14), 16, .call 82 [((.t 12), 0), ((.t 13), 0)], none, []⟩, ⟨(some 1), 3, .mv (.t 14), none, []⟩])
  (.seq (.seq (.ops [⟨(some 15), 17, .mv (.t 1), none, []⟩, ⟨(some 16), 18, .bin .lss (.t 15) (.c (.i .i64 0)), none, []⟩])
  (.cond (.t 16)
  (.seq (.ops [⟨(some 4), 6, .mv (.c (.i .i64 (-1))), none, []⟩])
  .ret)
  .skip))
  (.seq (.ops [⟨(some 17), 19, .faddr 2 1 (.t 2), none, []⟩, ⟨(some 18), 20, .load false 1 (.t 17), none, []⟩, ⟨(some 19), 21, .mv (.t 1), none, []⟩, ⟨(some 20), 22, .call 82 [((.t 18), 0), ((.t 19), 0)], none, []⟩, ⟨(some 1), 3, .mv (.t 20), none, []⟩])
  (.seq (.seq (.ops [⟨(some 21), 23, .mv (.t 1), none, []⟩, ⟨(some 22), 24, .bin .lss (.t 21) (.c (.i .i64 0)), none, []⟩])
  (.cond (.t 22)
  (.seq (.ops [⟨(some 4), 6, .mv (.c (.i .i64 (-1))), none, []⟩])
  .ret)
  .skip))
  (.seq (.ops [⟨(some 23), 25, .mv (.t 1), none, []⟩, ⟨(some 4), 6, .mv (.t 23), none, []⟩])
  .ret))))))))
theorem k41 : compCode Try.prog Try.f41.ntmps Try.f41.body.get! = some c41 := by kernel_rfl
theorem r41 : resTmps Try.prog Try.f41.results.toList = some [.tmp 4] := by kernel_rfl
/- laws.toDecl -/
def c147 : TCode := (.seq (.ops [⟨(some 1), 3, .box 2 (.t 0), none, []⟩, ⟨(some 2), 4, .box 2 (.c (.ag [(.s ⟨#[]⟩), (.i .i64 0)])), none, []⟩])
  (.seq (.ops [⟨(some 3), 5, .box 2 (.c (.ag [(.s ⟨#[]⟩), (.i .i64 0)])), none, []⟩])
  (.seq (.ops [⟨(some 4), 6, .faddr 0 1 (.t 1), none, []⟩, ⟨(some 5), 7, .load false 1 (.t 4), none, []⟩, ⟨(some 6), 8, .faddr 0 1 (.t 3), none, []⟩, ⟨none, 1002003, .store 1 (.t 6) (.t 5), none, []⟩])
  (.seq (.ops [⟨(some 7), 9, .faddr 1 1 (.t 1), none, []⟩, ⟨(some 8), 10, .load false 1 (.t 7), none, []⟩, ⟨(some 9), 11, .faddr 1 1 (.t 3), none, []⟩, ⟨none, 1003003, .store 1 (.t 9) (.t 8), none, []⟩])
  (.seq (.ops [⟨(some 10), 12, .load true 2 (.t 3), none, []⟩, ⟨none, 1004001, .store 2 (.t 2) (.t 10), none, []⟩])
  .ret)))))
theorem k147 : compCode Try.prog Try.f147.ntmps Try.f147.body.get! = some c147 := by kernel_rfl
theorem r147 : resTmps Try.prog Try.f147.results.toList = some [.cell 2 true 2] := by kernel_rfl
/- laws.toDeclS -/
def c88 : TCode := (.seq (.ops [⟨(some 2), 4, .mv (.c (.sl true 2 [])), none, []⟩])
  (.seq (.ops [⟨(some 5), 7, .mv (.t 0), none, []⟩, ⟨(some 6), 8, .len false (.t 5), none, []⟩, ⟨(some 7), 9, .mkslice 2 24 [(.s ⟨#[]⟩), (.i .i64 0)] (.t 6) (.t 6), none, []⟩, ⟨(some 3), 5, .mv (.t 7), none, []⟩])
  (.seq (.seq (.ops [⟨(some 4), 6, .mv (.c (.i .i64 0)), none, []⟩])
  (.block 0 (.loop (.seq (.seq (.ops [⟨(some 8), 10, .mv (.t 4), none, []⟩, ⟨(some 9), 11, .mv (.t 0), none, []⟩, ⟨(some 10), 12, .len false (.t 9), none, []⟩, ⟨(some 11), 13, .bin .lss (.t 8) (.t 10), none, []⟩])
  (.cond (.t 11)
  .skip
  (.exit 0)))
  (.seq (.block 1 (.ops [⟨(some 14), 16, .mv (.t 3), none, []⟩, ⟨(some 15), 17, .mv (.t 4), none, []⟩, ⟨(some 16), 18, .mv (.t 0), none, []⟩, ⟨(some 17), 19, .mv (.t 4), none, []⟩, ⟨(some 18), 20, .iaddr 2 (.t 16) (.t 17), none, []⟩, ⟨(some 19), 21, .load true 2 (.t 18), none, []⟩, ⟨(some 20), 22, .call 147 [((.t 19), 0)], none, []⟩, ⟨(some 21), 23, .iaddr 2 (.t 14) (.t 15), none, []⟩, ⟨none, 1005008, .store 2 (.t 21) (.t 20), none, []⟩]))
  (.ops [⟨(some 12), 14, .mv (.t 4), none, []⟩, ⟨(some 13), 15, .bin .add (.t 12) (.c (.i .i64 1)), none, []⟩, ⟨(some 4), 6, .mv (.t 13), none, []⟩]))))))
  (.seq (.ops [⟨(some 22), 24, .mv (.t 3), none, []⟩, ⟨(some 2), 4, .mv (.t 22), none, []⟩])
  .ret))))
theorem k88 : compCode Try.prog Try.f88.ntmps Try.f88.body.get! = some c88 := by kernel_rfl
theorem r88 : resTmps Try.prog Try.f88.results.toList = some [.tmp 2] := by kernel_rfl
/- laws.toReg -/
def c44 : TCode := (.seq (.ops [⟨(some 1), 3, .box 3 (.t 0), none, []⟩, ⟨(some 2), 4, .box 3 (.c (.ag [(.sl true 2 []), (.sl true 2 []), (.sl true 2 [])])), none, []⟩])
  (.seq (.ops [⟨(some 3), 5, .box 3 (.c (.ag [(.sl true 2 []), (.sl true 2 []), (.sl true 2 [])])), none, []⟩])
  (.seq (.ops [⟨(some 4), 6, .faddr 0 1 (.t 1), none, []⟩, ⟨(some 5), 7, .load false 1 (.t 4), none, []⟩, ⟨(some 6), 8, .call 88 [((.t 5), 0)], none, []⟩, ⟨(some 7), 9, .faddr 0 1 (.t 3), none, []⟩, ⟨none, 1002004, .store 1 (.t 7) (.t 6), none, []⟩])
  (.seq (.ops [⟨(some 8), 10, .faddr 1 1 (.t 1), none, []⟩, ⟨(some 9), 11, .load false 1 (.t 8), none, []⟩, ⟨(some 10), 12, .call 88 [((.t 9), 0)], none, []⟩, ⟨(some 11), 13, .faddr 1 1 (.t 3), none, []⟩, ⟨none, 1003004, .store 1 (.t 11) (.t 10), none, []⟩])
  (.seq (.ops [⟨(some 12), 14, .faddr 2 1 (.t 1), none, []⟩, ⟨(some 13), 15, .load false 1 (.t 12), none, []⟩, ⟨(some 14), 16, .call 88 [((.t 13), 0)], none, []⟩, ⟨(some 15), 17, .faddr 2 1 (.t 3), none, []⟩, ⟨none, 1004004, .store 1 (.t 15) (.t 14), none, []⟩])
  (.seq (.ops [⟨(some 16), 18, .load true 3 (.t 3), none, []⟩, ⟨none, 1005001, .store 3 (.t 2) (.t 16), none, []⟩])
  .ret))))))
theorem k44 : compCode Try.prog Try.f44.ntmps Try.f44.body.get! = some c44 := by kernel_rfl
theorem r44 : resTmps Try.prog Try.f44.results.toList = some [.cell 2 true 3] := by kernel_rfl
/- laws.eqDecl -/
def c155 : TCode := (.seq (.ops [⟨(some 2), 4, .box 2 (.t 0), none, []⟩, ⟨(some 3), 5, .box 2 (.t 1), none, []⟩, ⟨(some 4), 6, .mv (.c (.b false)), none, []⟩])
  (.seq (.seq (.ops [⟨(some 5), 7, .faddr 0 1 (.t 2), none, []⟩, ⟨(some 6), 8, .load false 1 (.t 5), none, []⟩, ⟨(some 7), 9, .faddr 0 1 (.t 3), none, []⟩, ⟨(some 8), 10, .load false 1 (.t 7), none, []⟩, ⟨(some 9), 11, .bin .neq (.t 6) (.t 8), none, []⟩])
  (.cond (.t 9)
  (.seq (.ops [⟨(some 4), 6, .mv (.c (.b false)), none, []⟩])
  .ret)
  .skip))
  (.seq (.seq (.ops [⟨(some 10), 12, .faddr 1 1 (.t 2), none, []⟩, ⟨(some 11), 13, .load false 1 (.t 10), none, []⟩, ⟨(some 12), 14, .faddr 1 1 (.t 3), none, []⟩, ⟨(some 13), 15, .load false 1 (.t 12), none, []⟩, ⟨(some 14), 16, .bin .neq (.t 11) (.t 13), none, []⟩])
  (.cond (.t 14)
  (.seq (.ops [⟨(some 4), 6, .mv (.c (.b false)), none, []⟩])
  .ret)
  .skip))
  (.seq (.ops [⟨(some 4), 6, .mv (.c (.b true)), none, []⟩])
  .ret))))
theorem k155 : compCode Try.prog Try.f155.ntmps Try.f155.body.get! = some c155 := by kernel_rfl
theorem r155 : resTmps Try.prog Try.f155.results.toList = some [.tmp 4] := by kernel_rfl
/- laws.eqDeclS -/
def c93 : TCode := (.seq (.ops [⟨(some 4), 6, .mv (.c (.b false)), none, []⟩])
  (.seq (.seq (.ops [⟨(some 6), 8, .mv (.t 0), none, []⟩, ⟨(some 7), 9, .len false (.t 6), none, []⟩, ⟨(some 8), 10, .mv (.t 1), none, []⟩, ⟨(some 9), 11, .len false (.t 8), none, []⟩, ⟨(some 10), 12, .bin .neq (.t 7) (.t 9), none, []⟩])
  (.cond (.t 10)
  (.seq (.ops [⟨(some 4), 6, .mv (.c (.b false)), none, []⟩])
  .ret)
  .skip))
  (.seq (.seq (.ops [⟨(some 5), 7, .mv (.c (.i .i64 0)), none, []⟩])
  (.block 0 (.loop (.seq (.seq (.ops [⟨(some 11), 13, .mv (.t 5), none, []⟩, ⟨(some 12), 14, .mv (.t 0), none, []⟩, ⟨(some 13), 15, .len false (.t 12), none, []⟩, ⟨(some 14), 16, .bin .lss (.t 11) (.t 13), none, []⟩])
  (.cond (.t 14)
  .skip
  (.exit 0)))
  (.seq (.block 1 (.seq (.draw [⟨(some 17), 19, .mv (.t 0), none, []⟩, ⟨(some 18), 20, .mv (.t 5), none, []⟩, ⟨(some 19), 21, .iaddr 2 (.t 17) (.t 18), none, []⟩, ⟨(some 20), 22, .load true 2 (.t 19), none, []⟩, ⟨(some 21), 23, .mv (.t 1), none, []⟩, ⟨(some 22), 24, .mv (.t 5), none, []⟩, ⟨(some 23), 25, .iaddr 2 (.t 21) (.t 22), none, []⟩, ⟨(some 24), 26, .load true 2 (.t 23), none, []⟩, ⟨(some 25), 27, .call 155 [((.t 20), 0), ((.t 24), 0)], none, []⟩, ⟨(some 26), 28, .un .not (.t 25), none, []⟩])
  (.cond (.t 26)
  (.seq (.ops [⟨(some 4), 6, .mv (.c (.b false)), none, []⟩])
  .ret)
  .skip)))
  (.ops [⟨(some 15), 17, .mv (.t 5), none, []⟩, ⟨(some 16), 18, .bin .add (.t 15) (.c (.i .i64 1)), none, []⟩, ⟨(some 5), 7, .mv (.t 16), none, []⟩]))))))
  (.seq (.ops [⟨(some 4), 6, .mv (.c (.b true)), none, []⟩])
  .ret))))
theorem k93 : compCode Try.prog Try.f93.ntmps Try.f93.body.get! = some c93 := by kernel_rfl
theorem r93 : resTmps Try.prog Try.f93.results.toList = some [.tmp 4] := by kernel_rfl
/- laws.eqReg -/
def c47 : TCode := (.seq (.ops [⟨(some 2), 4, .box 3 (.t 0), none, []⟩, ⟨(some 3), 5, .box 3 (.t 1), none, []⟩, ⟨(some 4), 6, .mv (.c (.b false)), none, []⟩])
  (.seq (.seq (.ops [⟨(some 5), 7, .faddr 0 1 (.t 2), none, []⟩, ⟨(some 6), 8, .load false 1 (.t 5), none, []⟩, ⟨(some 7), 9, .faddr 0 1 (.t 3), none, []⟩, ⟨(some 8), 10, .load false 1 (.t 7), none, []⟩, ⟨(some 9), 11, .call 93 [((.t 6), 0), ((.t 8), 0)], none, []⟩, ⟨(some 10), 12, .un .not (.t 9), none, []⟩])
  (.cond (.t 10)
  (.seq (.ops [⟨(some 4), 6, .mv (.c (.b false)), none, []⟩])
  .ret)
  .skip))
  (.seq (.seq (.ops [⟨(some 11), 13, .faddr 1 1 (.t 2), none, []⟩, ⟨(some 12), 14, .load false 1 (.t 11), none, []⟩, ⟨(some 13), 15, .faddr 1 1 (.t 3), none, []⟩, ⟨(some 14), 16, .load false 1 (.t 13), none, []⟩, ⟨(some 15), 17, .call 93 [((.t 12), 0), ((.t 14), 0)], none, []⟩, ⟨(some 16), 18, .un .not (.t 15), none, []⟩])
  (.cond (.t 16)
  (.seq (.ops [⟨(some 4), 6, .mv (.c (.b false)), none, []⟩])
  .ret)
  .skip))
  (.seq (.seq (.ops [⟨(some 17), 19, .faddr 2 1 (.t 2), none, []⟩, ⟨(some 18), 20, .load false 1 (.t 17), none, []⟩, ⟨(some 19), 21, .faddr 2 1 (.t 3), none, []⟩, ⟨(some 20), 22, .load false 1 (.t 19), none, []⟩, ⟨(some 21), 23, .call 93 [((.t 18), 0), ((.t 20), 0)], none, []⟩, ⟨(some 22), 24, .un .not (.t 21), none, []⟩])
  (.cond (.t 22)
  (.seq (.ops [⟨(some 4), 6, .mv (.c (.b false)), none, []⟩])
  .ret)
  .skip))
  (.seq (.ops [⟨(some 4), 6, .mv (.c (.b true)), none, []⟩])
  .ret)))))
theorem k47 : compCode Try.prog Try.f47.ntmps Try.f47.body.get! = some c47 := by kernel_rfl
theorem r47 : resTmps Try.prog Try.f47.results.toList = some [.tmp 4] := by kernel_rfl

@[simp] def sT (s : ByteArray) : List TV := [.s s]
@[simp] theorem fzL_sT (s : ByteArray) : fzL (sT s) = sT s := rfl
@[simp] theorem fzLL_sT (l : List (ByteArray)) : fzLL (l.map sT) = l.map sT := fzLL_map fzL_sT l
@[simp] theorem noROLL_sT (l : List (ByteArray)) : noROLL (l.map sT) = true := noROLL_map (fun _ => rfl) l
@[simp] theorem noref_sT (l : List (ByteArray)) : (l.map sT).all (·.all noref) = true := noref_map (fun _ => rfl) l
@[simp] theorem srcT_sT (H : Hp) (z : Nat) (l : List (ByteArray)) : srcT H (.sl false z (l.map sT)) = some (z, l.map sT, H, []) := by simp only [srcT, noref_sT, if_true]
abbrev DeclP := ByteArray × Int
@[simp] def dT (d : ByteArray × Int) : List TV := [.s d.1, .i .i64 d.2]
@[simp] theorem fzL_dT (d : ByteArray × Int) : fzL (dT d) = dT d := rfl
@[simp] theorem fzLL_dT (l : List (ByteArray × Int)) : fzLL (l.map dT) = l.map dT := fzLL_map fzL_dT l
@[simp] theorem noROLL_dT (l : List (ByteArray × Int)) : noROLL (l.map dT) = true := noROLL_map (fun _ => rfl) l
@[simp] theorem noref_dT (l : List (ByteArray × Int)) : (l.map dT).all (·.all noref) = true := noref_map (fun _ => rfl) l
@[simp] theorem srcT_dT (H : Hp) (z : Nat) (l : List (ByteArray × Int)) : srcT H (.sl false z (l.map dT)) = some (z, l.map dT, H, []) := by simp only [srcT, noref_dT, if_true]

instance memS (a : ByteArray) (l : List ByteArray) : Decidable (a ∈ l) := decidable_of_iff (l.any (fun x => decide (x = a)) = true) (by simp)
def lettP (n : Int) : Prop := (97 ≤ n ∧ n ≤ 122) ∨ (65 ≤ n ∧ n ≤ 90)
instance (n : Int) : Decidable (lettP n) := by unfold lettP; infer_instance
theorem w185 (n : Int) : Contract Try.prog false 185 [.ro] [.i .u8 n] [.b (decide (lettP n))] [] := by
  refine mk_contract [] Try.func185 (c := Try.f185.body.get!) (by kernel_rfl) k185 r185 (of_decide_eq_true rfl) fun _ => ?_
  unfold c185; simp
  by_cases h1 : 97 ≤ n <;> by_cases h2 : n ≤ 122 <;> by_cases h3 : 65 ≤ n <;> by_cases h4 : n ≤ 90 <;> simp [lettP, h1, h2, h3, h4]
theorem w188 (n : Int) : Contract Try.prog false 188 [.ro] [.i .u8 n] [.b (decide (lettP n))] [] := by
  refine mk_contract [] Try.func188 (c := Try.f188.body.get!) (by kernel_rfl) k188 r188 (of_decide_eq_true rfl) fun _ => ?_
  unfold c188; simp
  by_cases h1 : 97 ≤ n <;> by_cases h2 : n ≤ 122 <;> by_cases h3 : 65 ≤ n <;> by_cases h4 : n ≤ 90 <;> simp [lettP, h1, h2, h3, h4]

def words : List ByteArray := [⟨#[115, 121, 115, 116, 101, 109]⟩, ⟨#[102, 110]⟩, ⟨#[108, 101, 116]⟩, ⟨#[105, 102]⟩, ⟨#[101, 108, 115, 101]⟩, ⟨#[108, 111, 111, 112]⟩, ⟨#[101, 97, 99, 104]⟩, ⟨#[119, 105, 116, 104]⟩, ⟨#[119, 105, 116, 104, 111, 117, 116]⟩, ⟨#[101, 109, 105, 116]⟩, ⟨#[104, 101, 97, 114]⟩, ⟨#[97, 115]⟩, ⟨#[115, 112, 97, 119, 110]⟩, ⟨#[107, 105, 108, 108]⟩, ⟨#[112, 117, 116]⟩, ⟨#[100, 114, 111, 112]⟩, ⟨#[100, 111]⟩, ⟨#[114, 101, 116, 117, 114, 110]⟩, ⟨#[112, 105, 99, 107]⟩, ⟨#[111, 102]⟩, ⟨#[121, 101, 115]⟩, ⟨#[110, 111]⟩, ⟨#[97, 110, 100]⟩, ⟨#[111, 114]⟩, ⟨#[110, 111, 116]⟩, ⟨#[105, 110, 116]⟩, ⟨#[114, 101, 97, 108]⟩, ⟨#[112, 97, 105, 114]⟩, ⟨#[98, 111, 111, 108]⟩, ⟨#[114, 101]⟩, ⟨#[105, 109]⟩, ⟨#[115, 105, 122, 101]⟩]
theorem words_len : words.length = 32 := rfl
theorem w222  : Contract Try.prog false 222 [] [] [.sl true 1 (words.map sT)] [] := by
  refine mk_contract [] Try.func222 (c := Try.f222.body.get!) (by kernel_rfl) k222 r222 (of_decide_eq_true rfl) fun _ => ?_
  unfold c222; simp [words]
theorem w186 (a : ByteArray) : Contract Try.prog false 186 [.ro] [.s a] [.b (decide (a ∈ words))] [] := by
  refine mk_contract [] Try.func186 (c := Try.f186.body.get!) (by kernel_rfl) k186 r186 (of_decide_eq_true rfl) fun _ => ?_
  unfold c186; simp
  refine callW_ms [] ?_
  simp
  refine callX_of (w222 ) (by simp) ?_
  simp
  have hwl := words_len
  generalize words = W at hwl
  refine twp_for W.length (fun j s => s.t 0 = .s a ∧ s.t 3 = .rf [(7, 0)] 0 W.length ∧ s.t 4 = .i .i64 j ∧ a ∉ W.take j ∧ s.H = lk [(1, []), (7, [.sl true 1 (W.map sT)])]) [] (by simp) ?_ ?_
  · simp
  · rintro j s hj ⟨q0, q3, q4, hn, qH⟩
    rw [nf_of qH]
    simp [q0, q3, q4]
    refine ⟨fun hlt => ?_, fun hge => ?_⟩
    · have hw : IntKind.i64.wrap (j + 1) = j + 1 := wrap_id (by omega) (by omega)
      obtain ⟨x, hx⟩ := get_some hlt
      simp [hx, hw, q0, q3, q4]
      refine ⟨hlt, fun h => by subst h; exact List.mem_of_getElem? hx, fun h => ⟨hlt, ?_⟩⟩
      rw [take_snoc hx]; simp; exact ⟨hn, fun h2 => h h2.symm⟩
    · obtain rfl : j = W.length := by omega
      rw [List.take_of_length_le (Nat.le_refl _)] at hn
      exact hn
set_option maxRecDepth 100000 in
theorem w189 (a : ByteArray) : Contract Try.prog false 189 [.ro] [.s a] [.b (decide (a ∈ words))] [] := by
  refine mk_contract [] Try.func189 (c := Try.f189.body.get!) (by kernel_rfl) k189 r189 (of_decide_eq_true rfl) fun _ => ?_
  unfold c189; simp
  repeat (refine ⟨fun h => by simp [words, h], fun _ => ?_⟩)
  simp [words, *]

def allLet (a : ByteArray) (j : Nat) : Prop := ∀ i < j, ∀ b : UInt8, a[i]? = some b → lettP b.toNat
def nameP (a : ByteArray) : Prop := (1 ≤ a.size ∧ a.size ≤ 12) ∧ allLet a a.size ∧ a ∉ words
noncomputable instance (a : ByteArray) : Decidable (nameP a) := Classical.propDecidable _
theorem get_byte {a : ByteArray} {j : Nat} (h : j < a.size) : ∃ b : UInt8, a[j]? = some b := ⟨a[j], by simp [h]⟩
theorem allLet_succ {a : ByteArray} {j : Nat} {b : UInt8} (h : a[j]? = some b) : allLet a (j + 1) ↔ allLet a j ∧ lettP b.toNat := by
  constructor
  · intro h2; exact ⟨fun i hi => h2 i (by omega), h2 j (by omega) b h⟩
  · rintro ⟨h1, h2⟩ i hi c hc
    rcases Nat.lt_or_ge i j with h3 | h3
    · exact h1 i h3 c hc
    · obtain rfl : i = j := by omega
      rw [h] at hc; cases hc; exact h2
theorem w145 (a : ByteArray) : Contract Try.prog false 145 [.ro] [.s a] [.b (decide (nameP a))] [] := by
  refine mk_contract [] Try.func145 (c := Try.f145.body.get!) (by kernel_rfl) k145 r145 (of_decide_eq_true rfl) fun _ => ?_
  unfold c145; simp
  by_cases hr : 1 ≤ (a.size : Int) ∧ (a.size : Int) ≤ 12
  · refine callW_ms [.ro, .ro, .ro] ?_
    simp
    refine callX_of ((w87 _ _ _).t hr) (by simp) ?_
    simp
    refine twp_for a.size (fun j s => s.t 0 = .s a ∧ s.t 3 = .i .i64 j ∧ allLet a j ∧ s.H = lk [(1, [])]) [] (by simp) ?_ ?_
    · simp [allLet]
    · rintro j s hj ⟨q0, q3, hn, qH⟩
      rw [nf_of qH]
      simp [q0, q3]
      refine ⟨fun hlt => ?_, fun hge => ?_⟩
      · have hw : IntKind.i64.wrap (j + 1) = j + 1 := wrap_id (by omega) (by omega)
        obtain ⟨b, hb⟩ := get_byte hlt
        simp [hb, hw, q0, q3]
        by_cases hl : lettP b.toNat
        · refine callW_ms [.ro] ?_
          simp
          refine callX_of ((w185 b.toNat).t hl) (by simp) ?_
          simp [hw, q0, q3]
          exact ⟨hlt, (allLet_succ hb).2 ⟨hn, hl⟩⟩
        · refine callW_ms [.ro] ?_
          simp
          refine callX_of ((w185 b.toNat).f hl) (by simp) ?_
          simp [hw, q0, q3]
          intro h; exact hl (h.2.1 j hlt b hb)
      · obtain rfl : j = a.size := by omega
        have h1 : 1 ≤ a.size ∧ a.size ≤ 12 := by omega
        refine callW_ms [.ro] ?_
        simp
        refine callX_of (w186 a) (by simp) ?_
        simp [nameP, hn, h1]
  · refine callW_ms [.ro, .ro, .ro] ?_
    simp
    refine callX_of ((w87 _ _ _).f hr) (by simp) ?_
    simp
    intro h; exact hr (by have := h.1; omega)
theorem w149 (a : ByteArray) (ha : a.size ≤ 2^40) : Contract Try.prog false 149 [.ro] [.s a] [.b (decide (nameP a))] [] := by
  refine mk_contract [] Try.func149 (c := Try.f149.body.get!) (by kernel_rfl) k149 r149 (of_decide_eq_true rfl) fun _ => ?_
  unfold c149; simp
  refine twp_for a.size (fun j s => s.t 0 = .s a ∧ s.t 3 = .i .i64 j ∧ allLet a j ∧ s.H = lk [(1, [])]) [] (by simp) ?_ ?_
  · simp [allLet]
  · rintro j s hj ⟨q0, q3, hn, qH⟩
    rw [nf_of qH]
    simp [q0, q3]
    refine ⟨fun hlt => ?_, fun hge => ?_⟩
    · have hw : IntKind.i64.wrap (j + 1) = j + 1 := wrap_id (by omega) (by omega)
      obtain ⟨b, hb⟩ := get_byte hlt
      simp [hb, hw, q0, q3]
      by_cases hl : lettP b.toNat
      · refine callW_ms [.ro] ?_
        simp
        refine callX_of ((w188 b.toNat).t hl) (by simp) ?_
        simp [hw, q0, q3]
        exact ⟨hlt, (allLet_succ hb).2 ⟨hn, hl⟩⟩
      · refine callW_ms [.ro] ?_
        simp
        refine callX_of ((w188 b.toNat).f hl) (by simp) ?_
        simp [hw, q0, q3]
        intro h; exact hl (h.2.1 j hlt b hb)
    · obtain rfl : j = a.size := by omega
      by_cases hr : 1 ≤ (a.size : Int) ∧ (a.size : Int) ≤ 12
      · have h1 : 1 ≤ a.size ∧ a.size ≤ 12 := by omega
        refine callW_ms [.ro, .ro, .ro] ?_
        simp
        refine callX_of ((w154 _ _ _).t hr) (by simp) ?_
        simp [q0, q3]
        refine callW_ms [.ro] ?_
        simp
        refine callX_of (w189 a) (by simp) ?_
        simp [nameP, hn, h1]
      · have h1 : ¬ (1 ≤ a.size ∧ a.size ≤ 12) := by omega
        refine callW_ms [.ro, .ro, .ro] ?_
        simp
        refine callX_of ((w154 _ _ _).f hr) (by simp) ?_
        simp [q0, q3, nameP, h1]

def declT (d : ByteArray × Int) : TV := .ag [.s d.1, .i .i64 d.2]
def szDeclF (d : ByteArray × Int) (n : Int) : Int := szF n d.1.size
theorem w144 (d : ByteArray × Int) (n : Int) (hd : d.1.size < 2^63) (hn : n < 2^62) (hn0 : 0 ≤ n) : Contract Try.prog false 144 [.ro, .ro] [declT d, .i .i64 n] [.i .i64 (szDeclF d n)] [] := by
  refine mk_contract [] Try.func144 (c := Try.f144.body.get!) (by kernel_rfl) k144 r144 (of_decide_eq_true rfl) fun _ => ?_
  have hw : IntKind.i64.wrap (n - d.1.size) = n - d.1.size := wrap_id (by omega) (by omega)
  unfold c144; unfold declT szDeclF szF; simp [hw]
  omega
theorem szDecl_le (d : ByteArray × Int) (n : Int) (h : 0 ≤ n) : szDeclF d n ≤ n := szF_le _ _ (by omega) h
theorem w82 (l : List (ByteArray × Int)) (n : Int) (hl : l.length < 2^63) (hd : ∀ d ∈ l, d.1.size < 2^63) (hn : n < 2^62) (hn0 : 0 ≤ n) : Contract Try.prog false 82 [.ro, .ro] [.sl false 2 (l.map dT), .i .i64 n] [.i .i64 (szS szDeclF l n)] [] := by
  refine mk_contract [] Try.func82 (c := Try.f82.body.get!) (by kernel_rfl) k82 r82 (of_decide_eq_true rfl) fun _ => ?_
  have hw : IntKind.i64.wrap (n - l.length) = n - l.length := wrap_id (by omega) (by omega)
  unfold c82; simp [hw]
  refine ⟨fun h => ?_, fun h => ?_⟩
  · simp [szS, szF, h]
  have e : szF n l.length = n - l.length := by unfold szF; rw [if_neg (by omega)]
  have e2 : szS szDeclF l n = szA szDeclF l (n - l.length) := by unfold szS; rw [e, if_neg (by omega)]
  rw [e2]
  refine twp_for l.length (fun j s => s.t 0 = .sl false 2 (l.map dT) ∧ s.t 1 = .i .i64 (szA szDeclF (l.take j) (n - l.length)) ∧ s.t 5 = .i .i64 j ∧ 0 ≤ szA szDeclF (l.take j) (n - l.length) ∧ s.H = lk [(1, [])]) [] (by simp) ?_ ?_
  · simp; omega
  · rintro j s hj ⟨q0, q1, q5, h0, qH⟩
    rw [nf_of qH]
    simp [q0, q1, q5]
    refine ⟨fun hlt => ?_, fun hge => ?_⟩
    · have hw : IntKind.i64.wrap (j + 1) = j + 1 := wrap_id (by omega) (by omega)
      obtain ⟨x, hx⟩ := get_some hlt
      have hle := (szA_ok szDecl_le (l.take j) _ h0 (by omega)).1
      have hs : szA szDeclF (l.take (j + 1)) (n - l.length) = szDeclF x (szA szDeclF (l.take j) (n - l.length)) := by
        rw [take_snoc hx, szA_snoc, if_neg (by omega)]
      have hng : szDeclF x (szA szDeclF (l.take j) (n - l.length)) < 0 → szDeclF x (szA szDeclF (l.take j) (n - l.length)) = -1 := szF_neg _ _
      have hng2 := szA_take szDeclF l (n - l.length) (j + 1)
      rw [hs] at hng2
      generalize szA szDeclF (l.take j) (n - l.length) = m at *
      simp [hx, hw, q0, q1, q5]
      refine callW_ms [.ro, .ro] ?_
      simp [declT]
      refine callX_of (w144 x m (hd x (List.mem_of_getElem? hx)) (by omega) h0) (by simp) ?_
      simp [hw, q0, q1, q5]
      generalize szDeclF x m = m' at *
      refine ⟨fun h1 => (hng2 (hng h1)).symm, fun h1 => ⟨hlt, by rw [hs], by rw [hs]; omega⟩⟩
    · obtain rfl : j = l.length := by omega
      simp [q0, q1, q5]
theorem w147 (d : ByteArray × Int) : Contract Try.prog false 147 [.ro] [declT d] [declT d] [] := by
  refine mk_contract [] Try.func147 (c := Try.f147.body.get!) (by kernel_rfl) k147 r147 (of_decide_eq_true rfl) fun _ => ?_
  unfold c147; unfold declT; simp
theorem w88 (l : List (ByteArray × Int)) (hl : l.length ≤ 2^40) : Contract Try.prog false 88 [.ro] [.sl false 2 (l.map dT)] [.sl true 2 (l.map dT)] [] := by
  refine mk_contract [] Try.func88 (c := Try.f88.body.get!) (by kernel_rfl) k88 r88 (of_decide_eq_true rfl) fun _ => ?_
  unfold c88; simp
  refine ⟨by omega, ?_⟩
  refine twp_for l.length (fun j s => s.t 0 = .sl false 2 (l.map dT) ∧ s.t 3 = .rf [(9, 0)] 0 l.length ∧ s.t 4 = .i .i64 j ∧ s.H = lk [(1, []), (9, [.sl true 2 ((l.map dT).take j ++ List.replicate (l.length - j) [.s ⟨#[]⟩, .i .i64 0])])]) [] (by simp) ?_ ?_
  · simp
  · rintro j s hj ⟨q0, q3, q4, qH⟩
    rw [nf_of qH]
    simp [q0, q3, q4]
    refine ⟨fun hlt => ?_, fun hge => ?_⟩
    · have hw : IntKind.i64.wrap (j + 1) = j + 1 := wrap_id (by omega) (by omega)
      obtain ⟨x, hx⟩ := get_some hlt
      have hmin : min j l.length = j := by omega
      simp [hx, hw, q0, q3, q4]
      refine callW_ms [.ro] ?_
      simp [declT]
      refine callX_of (w147 x) (by simp) ?_
      simp [declT, hw, q0, q3, q4, rep_at hlt, mapsnoc hx, hmin]
      omega
    · obtain rfl : j = l.length := by omega
      simp [q0, q3, q4]
theorem w155 (d e : ByteArray × Int) : Contract Try.prog false 155 [.ro, .ro] [declT d, declT e] [.b (decide (d = e))] [] := by
  refine mk_contract [] Try.func155 (c := Try.f155.body.get!) (by kernel_rfl) k155 r155 (of_decide_eq_true rfl) fun _ => ?_
  unfold c155; unfold declT; simp
  exact ⟨fun h1 => ⟨fun h2 => Prod.ext h1 h2, fun h2 h3 => h2 (by rw [h3])⟩, fun h1 h2 => h1 (by rw [h2])⟩
theorem w93 (a b : List (ByteArray × Int)) (ha : a.length ≤ 2^40) (hb : b.length ≤ 2^40) : Contract Try.prog false 93 [.ro, .ro] [.sl false 2 (a.map dT), .sl false 2 (b.map dT)] [.b (decide (a = b))] [] := by
  refine mk_contract [] Try.func93 (c := Try.f93.body.get!) (by kernel_rfl) k93 r93 (of_decide_eq_true rfl) fun _ => ?_
  unfold c93; simp
  refine ⟨fun h => ?_, fun h => ?_⟩
  · refine twp_for a.length (fun j s => s.t 0 = .sl false 2 (a.map dT) ∧ s.t 1 = .sl false 2 (b.map dT) ∧ s.t 5 = .i .i64 j ∧ a.take j = b.take j ∧ s.H = lk [(1, [])]) [] (by simp) ?_ ?_
    · simp
    · rintro j s hj ⟨q0, q1, q5, hab, qH⟩
      rw [nf_of qH]
      simp [q0, q1, q5]
      refine ⟨fun hlt => ?_, fun hge => ?_⟩
      · have hw : IntKind.i64.wrap (j + 1) = j + 1 := wrap_id (by omega) (by omega)
        obtain ⟨x, hx⟩ := get_some hlt
        obtain ⟨y, hy⟩ := get_some (l := b) (j := j) (by omega)
        simp [hx, hy, hw, q0, q1, q5]
        by_cases hxy : x = y
        · refine callW_ms [.ro, .ro] ?_
          simp [declT]
          refine callX_of ((w155 x y).t hxy) (by simp) ?_
          simp [hw, q0, q1, q5]
          exact ⟨hlt, by rw [take_snoc hx, take_snoc hy, hab, hxy]⟩
        · refine callW_ms [.ro, .ro] ?_
          simp [declT]
          refine callX_of ((w155 x y).f hxy) (by simp) ?_
          simp [hw, q0, q1, q5]
          intro hab2; subst hab2; rw [hx] at hy; cases hy; exact absurd rfl hxy
      · obtain rfl : j = a.length := by omega
        rw [List.take_of_length_le (Nat.le_refl _), List.take_of_length_le (by omega)] at hab
        exact hab
  · rintro rfl; exact h rfl

/-- A Reg: its three lists. -/
def regR (c r e : List (ByteArray × Int)) : TV := .ag [.sl false 2 (c.map dT), .sl false 2 (r.map dT), .sl false 2 (e.map dT)]
def regO (c r e : List (ByteArray × Int)) : TV := .ag [.sl true 2 (c.map dT), .sl true 2 (r.map dT), .sl true 2 (e.map dT)]
theorem szDecl_neg (x : ByteArray × Int) (m : Int) (h : szDeclF x m < 0) : szDeclF x m = -1 := szF_neg _ _ h
def szRegF (c r e : List (ByteArray × Int)) (n : Int) : Int :=
  let a := szS szDeclF c n
  if a < 0 then -1 else
    let b := szS szDeclF r a
    if b < 0 then -1 else szS szDeclF e b
def bndD (l : List (ByteArray × Int)) : Prop := l.length < 2^63 ∧ ∀ d ∈ l, d.1.size < 2^63
def okD (k : Nat) (l : List (ByteArray × Int)) : Prop := l.length ≤ k ∧ ∀ d ∈ l, d.1.size ≤ k
theorem szS_okD {l : List (ByteArray × Int)} {n : Int} {k : Nat} (h0 : 0 ≤ n) (hk : n ≤ k) (h : ¬ szS szDeclF l n < 0) : 0 ≤ szS szDeclF l n ∧ szS szDeclF l n ≤ n ∧ okD k l := by
  obtain ⟨h1, h2, h3, h4⟩ := szS_lo szDecl_le h0 h
  refine ⟨h1, h2, by omega, fun d hd => ?_⟩
  obtain ⟨m, m1, m2, m3⟩ := h4 d hd
  have := (szF_pos (n := m) (k := d.1.size) m3).2
  omega
theorem szRegF_ok {c r e : List (ByteArray × Int)} {n : Int} {k : Nat} (h0 : 0 ≤ n) (hk : n ≤ k) (h : ¬ szRegF c r e n < 0) : 0 ≤ szRegF c r e n ∧ szRegF c r e n ≤ n ∧ okD k c ∧ okD k r ∧ okD k e := by
  simp only [szRegF] at h ⊢
  by_cases h1 : szS szDeclF c n < 0
  · simp [h1] at h
  · obtain ⟨a1, a2, a3⟩ := szS_okD h0 hk h1
    rw [if_neg h1] at h ⊢
    by_cases h2 : szS szDeclF r (szS szDeclF c n) < 0
    · simp [h2] at h
    · obtain ⟨b1, b2, b3⟩ := szS_okD a1 (by omega : szS szDeclF c n ≤ k) h2
      rw [if_neg h2] at h ⊢
      obtain ⟨c1, c2, c3⟩ := szS_okD b1 (by omega : szS szDeclF r (szS szDeclF c n) ≤ k) h
      exact ⟨c1, by omega, a3, b3, c3⟩
theorem w41 (c r e : List (ByteArray × Int)) (n : Int) (hc : bndD c) (hr : bndD r) (he : bndD e) (hn : n < 2^62) (hn0 : 0 ≤ n) : Contract Try.prog false 41 [.ro, .ro] [regR c r e, .i .i64 n] [.i .i64 (szRegF c r e n)] [] := by
  refine mk_contract [] Try.func41 (c := Try.f41.body.get!) (by kernel_rfl) k41 r41 (of_decide_eq_true rfl) fun _ => ?_
  unfold c41; unfold regR szRegF; simp
  refine callW_ms [.ro, .ro] ?_
  simp
  refine callX_of (w82 c n hc.1 hc.2 hn hn0) (by simp) ?_
  simp
  refine ⟨fun h => by intros; omega, fun h => ?_⟩
  obtain ⟨a1, a2, -⟩ := szS_okD (k := 2^62) hn0 (by omega) (by omega : ¬ szS szDeclF c n < 0)
  refine callW_ms [.ro, .ro] ?_
  simp
  refine callX_of (w82 r _ hr.1 hr.2 (by omega) h) (by simp) ?_
  simp
  rw [if_neg (by omega)]
  refine ⟨fun h2 => by intros; omega, fun h2 => ?_⟩
  obtain ⟨b1, b2, -⟩ := szS_okD (k := 2^62) h (by omega) (by omega : ¬ szS szDeclF r (szS szDeclF c n) < 0)
  refine callW_ms [.ro, .ro] ?_
  simp
  refine callX_of (w82 e _ he.1 he.2 (by omega) h2) (by simp) ?_
  simp
  refine ⟨fun h3 _ => (szS_neg szDecl_neg _ _ h3).symm, fun h3 h4 => by omega⟩
theorem w44 (c r e : List (ByteArray × Int)) (hc : c.length ≤ 2^40) (hr : r.length ≤ 2^40) (he : e.length ≤ 2^40) : Contract Try.prog false 44 [.ro] [regR c r e] [regO c r e] [] := by
  refine mk_contract [] Try.func44 (c := Try.f44.body.get!) (by kernel_rfl) k44 r44 (of_decide_eq_true rfl) fun _ => ?_
  unfold c44; unfold regR regO; simp
  refine callW_ms [.ro] ?_
  simp
  refine callX_of (w88 c hc) (by simp) ?_
  simp
  refine callW_ms [.ro] ?_
  simp
  refine callX_of (w88 r hr) (by simp) ?_
  simp
  refine callW_ms [.ro] ?_
  simp
  refine callX_of (w88 e he) (by simp) ?_
  simp
theorem w47 (c r e c' r' e' : List (ByteArray × Int)) (hc : c.length ≤ 2^40) (hr : r.length ≤ 2^40) (he : e.length ≤ 2^40) (hc' : c'.length ≤ 2^40) (hr' : r'.length ≤ 2^40) (he' : e'.length ≤ 2^40) : Contract Try.prog false 47 [.ro, .ro] [regR c r e, regR c' r' e'] [.b (decide (c = c' ∧ r = r' ∧ e = e'))] [] := by
  refine mk_contract [] Try.func47 (c := Try.f47.body.get!) (by kernel_rfl) k47 r47 (of_decide_eq_true rfl) fun _ => ?_
  unfold c47; unfold regR; simp
  refine callW_ms [.ro, .ro] ?_
  simp
  refine callX_of (w93 c c' hc hc') (by simp) ?_
  simp
  refine ⟨fun h => ?_, fun h => ?_⟩
  · refine callW_ms [.ro, .ro] ?_
    simp
    refine callX_of (w93 r r' hr hr') (by simp) ?_
    simp
    refine ⟨fun h2 => ?_, fun h2 => ?_⟩
    · refine callW_ms [.ro, .ro] ?_
      simp
      refine callX_of (w93 e e' he he') (by simp) ?_
      simp [h, h2]
    · simp [h2]
  · simp [h]
end Go.Proofs.YtmedelmfkciblaaT

/- Worlds: rows of tables; sizes, copies, sameness. -/
namespace Go.Proofs.YtmedelmfkciblaaT
set_option linter.unusedVariables false
set_option linter.unusedSimpArgs false
open Go

/- laws.szEntS -/
def c194 : TCode := (.seq (.ops [⟨(some 4), 6, .mv (.c (.i .i64 0)), none, []⟩])
  (.seq (.ops [⟨(some 5), 7, .mv (.t 1), none, []⟩, ⟨(some 6), 8, .mv (.t 0), none, []⟩, ⟨(some 7), 9, .len false (.t 6), none, []⟩, ⟨(some 8), 10, .bin .sub (.t 5) (.t 7), none, []⟩, ⟨(some 1), 3, .mv (.t 8), none, []⟩])
  (.seq (.seq (.ops [⟨(some 9), 11, .mv (.t 1), none, []⟩, ⟨(some 10), 12, .bin .lss (.t 9) (.c (.i .i64 0)), none, []⟩])
  (.cond (.t 10)
  (.seq (.ops [⟨(some 4), 6, .mv (.c (.i .i64 (-1))), none, []⟩])
  .ret)
  .skip))
  (.seq (.ops [⟨(some 11), 13, .mv (.t 1), none, []⟩, ⟨(some 4), 6, .mv (.t 11), none, []⟩])
  .ret))))
theorem k194 : compCode Try.prog Try.f194.ntmps Try.f194.body.get! = some c194 := by kernel_rfl
theorem r194 : resTmps Try.prog Try.f194.results.toList = some [.tmp 4] := by kernel_rfl
/- laws.toEntS -/
def c196 : TCode := (.seq (.ops [⟨(some 2), 4, .mv (.c (.sl true 2 [])), none, []⟩])
  (.seq (.ops [⟨(some 5), 7, .mv (.t 0), none, []⟩, ⟨(some 6), 8, .len false (.t 5), none, []⟩, ⟨(some 7), 9, .mkslice 2 16 [(.i .i64 0), (.i .i64 0)] (.t 6) (.t 6), none, []⟩, ⟨(some 3), 5, .mv (.t 7), none, []⟩])
  (.seq (.seq (.ops [⟨(some 4), 6, .mv (.c (.i .i64 0)), none, []⟩])
  (.block 0 (.loop (.seq (.seq (.ops [⟨(some 8), 10, .mv (.t 4), none, []⟩, ⟨(some 9), 11, .mv (.t 0), none, []⟩, ⟨(some 10), 12, .len false (.t 9), none, []⟩, ⟨(some 11), 13, .bin .lss (.t 8) (.t 10), none, []⟩])
  (.cond (.t 11)
  .skip
  (.exit 0)))
  (.seq (.block 1 (.ops [⟨(some 14), 16, .mv (.t 3), none, []⟩, ⟨(some 15), 17, .mv (.t 4), none, []⟩, ⟨(some 16), 18, .mv (.t 0), none, []⟩, ⟨(some 17), 19, .mv (.t 4), none, []⟩, ⟨(some 18), 20, .iaddr 2 (.t 16) (.t 17), none, []⟩, ⟨(some 19), 21, .load true 2 (.t 18), none, []⟩, ⟨(some 20), 22, .call 60 [((.t 19), 0)], none, []⟩, ⟨(some 21), 23, .iaddr 2 (.t 14) (.t 15), none, []⟩, ⟨none, 1005008, .store 2 (.t 21) (.t 20), none, []⟩]))
  (.ops [⟨(some 12), 14, .mv (.t 4), none, []⟩, ⟨(some 13), 15, .bin .add (.t 12) (.c (.i .i64 1)), none, []⟩, ⟨(some 4), 6, .mv (.t 13), none, []⟩]))))))
  (.seq (.ops [⟨(some 22), 24, .mv (.t 3), none, []⟩, ⟨(some 2), 4, .mv (.t 22), none, []⟩])
  .ret))))
theorem k196 : compCode Try.prog Try.f196.ntmps Try.f196.body.get! = some c196 := by kernel_rfl
theorem r196 : resTmps Try.prog Try.f196.results.toList = some [.tmp 2] := by kernel_rfl
/- laws.szValSS -/
def c195 : TCode := (.seq (.ops [⟨(some 4), 6, .mv (.c (.i .i64 0)), none, []⟩])
  (.seq (.ops [⟨(some 6), 8, .mv (.t 1), none, []⟩, ⟨(some 7), 9, .mv (.t 0), none, []⟩, ⟨(some 8), 10, .len false (.t 7), none, []⟩, ⟨(some 9), 11, .bin .sub (.t 6) (.t 8), none, []⟩, ⟨(some 1), 3, .mv (.t 9), none, []⟩])
  (.seq (.seq (.ops [⟨(some 10), 12, .mv (.t 1), none, []⟩, ⟨(some 11), 13, .bin .lss (.t 10) (.c (.i .i64 0)), none, []⟩])
  (.cond (.t 11)
  (.seq (.ops [⟨(some 4), 6, .mv (.c (.i .i64 (-1))), none, []⟩])
  .ret)
  .skip))
  (.seq (.seq (.ops [⟨(some 5), 7, .mv (.c (.i .i64 0)), none, []⟩])
  (.block 0 (.loop (.seq (.seq (.ops [⟨(some 12), 14, .mv (.t 5), none, []⟩, ⟨(some 13), 15, .mv (.t 0), none, []⟩, ⟨(some 14), 16, .len false (.t 13), none, []⟩, ⟨(some 15), 17, .bin .lss (.t 12) (.t 14), none, []⟩])
  (.cond (.t 15)
  .skip
  (.exit 0)))
  (.seq (.block 1 (.seq (.ops [⟨(some 18), 20, .mv (.t 0), none, []⟩, ⟨(some 19), 21, .mv (.t 5), none, []⟩, ⟨(some 20), 22, .iaddr 1 (.t 18) (.t 19), none, []⟩, ⟨(some 21), 23, .load false 1 (.t 20), none, []⟩, ⟨(some 22), 24, .mv (.t 1), none, []⟩, ⟨(some 23), 25, .call 99 [((.t 21), 0), ((.t 22), 0)], none, []⟩, ⟨(some 1), 3, .mv (.t 23), none, []⟩])
  (.seq (.ops [⟨(some 24), 26, .mv (.t 1), none, []⟩, ⟨(some 25), 27, .bin .lss (.t 24) (.c (.i .i64 0)), none, []⟩])
  (.cond (.t 25)
  (.seq (.ops [⟨(some 4), 6, .mv (.c (.i .i64 (-1))), none, []⟩])
  .ret)
  .skip))))
  (.ops [⟨(some 16), 18, .mv (.t 5), none, []⟩, ⟨(some 17), 19, .bin .add (.t 16) (.c (.i .i64 1)), none, []⟩, ⟨(some 5), 7, .mv (.t 17), none, []⟩]))))))
  (.seq (.ops [⟨(some 26), 28, .mv (.t 1), none, []⟩, ⟨(some 4), 6, .mv (.t 26), none, []⟩])
  .ret)))))
theorem k195 : compCode Try.prog Try.f195.ntmps Try.f195.body.get! = some c195 := by kernel_rfl
theorem r195 : resTmps Try.prog Try.f195.results.toList = some [.tmp 4] := by kernel_rfl
/- laws.toValSS -/
def c197 : TCode := (.seq (.ops [⟨(some 2), 4, .mv (.c (.sl true 1 [])), none, []⟩])
  (.seq (.ops [⟨(some 5), 7, .mv (.t 0), none, []⟩, ⟨(some 6), 8, .len false (.t 5), none, []⟩, ⟨(some 7), 9, .mkslice 1 24 [(.sl true 4 [])] (.t 6) (.t 6), none, []⟩, ⟨(some 3), 5, .mv (.t 7), none, []⟩])
  (.seq (.seq (.ops [⟨(some 4), 6, .mv (.c (.i .i64 0)), none, []⟩])
  (.block 0 (.loop (.seq (.seq (.ops [⟨(some 8), 10, .mv (.t 4), none, []⟩, ⟨(some 9), 11, .mv (.t 0), none, []⟩, ⟨(some 10), 12, .len false (.t 9), none, []⟩, ⟨(some 11), 13, .bin .lss (.t 8) (.t 10), none, []⟩])
  (.cond (.t 11)
  .skip
  (.exit 0)))
  (.seq (.block 1 (.ops [⟨(some 14), 16, .mv (.t 3), none, []⟩, ⟨(some 15), 17, .mv (.t 4), none, []⟩, ⟨(some 16), 18, .mv (.t 0), none, []⟩, ⟨(some 17), 19, .mv (.t 4), none, []⟩, ⟨(some 18), 20, .iaddr 1 (.t 16) (.t 17), none, []⟩, ⟨(some 19), 21, .load false 1 (.t 18), none, []⟩, ⟨(some 20), 22, .call 103 [((.t 19), 0)], none, []⟩, ⟨(some 21), 23, .iaddr 1 (.t 14) (.t 15), none, []⟩, ⟨none, 1005008, .store 1 (.t 21) (.t 20), none, []⟩]))
  (.ops [⟨(some 12), 14, .mv (.t 4), none, []⟩, ⟨(some 13), 15, .bin .add (.t 12) (.c (.i .i64 1)), none, []⟩, ⟨(some 4), 6, .mv (.t 13), none, []⟩]))))))
  (.seq (.ops [⟨(some 22), 24, .mv (.t 3), none, []⟩, ⟨(some 2), 4, .mv (.t 22), none, []⟩])
  .ret))))
theorem k197 : compCode Try.prog Try.f197.ntmps Try.f197.body.get! = some c197 := by kernel_rfl
theorem r197 : resTmps Try.prog Try.f197.results.toList = some [.tmp 2] := by kernel_rfl
/- laws.eqValSS -/
def c198 : TCode := (.seq (.ops [⟨(some 4), 6, .mv (.c (.b false)), none, []⟩])
  (.seq (.seq (.ops [⟨(some 6), 8, .mv (.t 0), none, []⟩, ⟨(some 7), 9, .len false (.t 6), none, []⟩, ⟨(some 8), 10, .mv (.t 1), none, []⟩, ⟨(some 9), 11, .len false (.t 8), none, []⟩, ⟨(some 10), 12, .bin .neq (.t 7) (.t 9), none, []⟩])
  (.cond (.t 10)
  (.seq (.ops [⟨(some 4), 6, .mv (.c (.b false)), none, []⟩])
  .ret)
  .skip))
  (.seq (.seq (.ops [⟨(some 5), 7, .mv (.c (.i .i64 0)), none, []⟩])
  (.block 0 (.loop (.seq (.seq (.ops [⟨(some 11), 13, .mv (.t 5), none, []⟩, ⟨(some 12), 14, .mv (.t 0), none, []⟩, ⟨(some 13), 15, .len false (.t 12), none, []⟩, ⟨(some 14), 16, .bin .lss (.t 11) (.t 13), none, []⟩])
  (.cond (.t 14)
  .skip
  (.exit 0)))
  (.seq (.block 1 (.seq (.draw [⟨(some 17), 19, .mv (.t 0), none, []⟩, ⟨(some 18), 20, .mv (.t 5), none, []⟩, ⟨(some 19), 21, .iaddr 1 (.t 17) (.t 18), none, []⟩, ⟨(some 20), 22, .load false 1 (.t 19), none, []⟩, ⟨(some 21), 23, .mv (.t 1), none, []⟩, ⟨(some 22), 24, .mv (.t 5), none, []⟩, ⟨(some 23), 25, .iaddr 1 (.t 21) (.t 22), none, []⟩, ⟨(some 24), 26, .load false 1 (.t 23), none, []⟩, ⟨(some 25), 27, .call 110 [((.t 20), 0), ((.t 24), 0)], none, []⟩, ⟨(some 26), 28, .un .not (.t 25), none, []⟩])
  (.cond (.t 26)
  (.seq (.ops [⟨(some 4), 6, .mv (.c (.b false)), none, []⟩])
  .ret)
  .skip)))
  (.ops [⟨(some 15), 17, .mv (.t 5), none, []⟩, ⟨(some 16), 18, .bin .add (.t 15) (.c (.i .i64 1)), none, []⟩, ⟨(some 5), 7, .mv (.t 16), none, []⟩]))))))
  (.seq (.ops [⟨(some 4), 6, .mv (.c (.b true)), none, []⟩])
  .ret))))
theorem k198 : compCode Try.prog Try.f198.ntmps Try.f198.body.get! = some c198 := by kernel_rfl
theorem r198 : resTmps Try.prog Try.f198.results.toList = some [.tmp 4] := by kernel_rfl
/- laws.szTable -/
def c158 : TCode := (.seq (.ops [⟨(some 2), 4, .box 3 (.t 0), none, []⟩, ⟨(some 4), 6, .mv (.c (.i .i64 0)), none, []⟩])
  (.seq (.ops [⟨(some 5), 7, .faddr 0 1 (.t 2), none, []⟩, ⟨(some 6), 8, .load false 1 (.t 5), none, []⟩, ⟨(some 7), 9, .mv (.t 1), none, []⟩, ⟨(some 8), 10, .call 68 [((.t 6), 0), ((.t 7), 0)], none, []⟩, ⟨(some 1), 3, .mv (.t 8), none, []⟩])
  (.seq (.seq (.ops [⟨(some 9), 11, .mv (.t 1), none, []⟩, ⟨(some 10), 12, .bin .lss (.t 9) (.c (.i .i64 0)), none, []⟩])
  (.cond (.t 10)
  (.seq (.ops [⟨(some 4), 6, .mv (.c (.i .i64 (-1))), none, []⟩])
  .ret)
  .skip))
  (.seq (.ops [⟨(some 11), 13, .faddr 1 1 (.t 2), none, []⟩, ⟨(some 12), 14, .load false 1 (.t 11), none, []⟩, ⟨(some 13), 15, .mv (.t 1), none, []⟩, ⟨(some 14), 16, .call 194 [((.t 12), 0), ((.t 13), 0)], none, []⟩, ⟨(some 1), 3, .mv (.t 14), none, []⟩])
  (.seq (.seq (.ops [⟨(some 15), 17, .mv (.t 1), none, []⟩, ⟨(some 16), 18, .bin .lss (.t 15) (.c (.i .i64 0)), none, []⟩])
  (.cond (.t 16)
  (.seq (.ops [⟨(some 4), 6, .mv (.c (.i .i64 (-1))), none, []⟩])
  .ret)
  .skip))
  (.seq (.ops [⟨(some 17), 19, .faddr 2 1 (.t 2), none, []⟩, ⟨(some 18), 20, .load false 1 (.t 17), none, []⟩, ⟨(some 19), 21, .mv (.t 1), none, []⟩, ⟨(some 20), 22, .call 195 [((.t 18), 0), ((.t 19), 0)], none, []⟩, ⟨(some 1), 3, .mv (.t 20), none, []⟩])
  (.seq (.seq (.ops [⟨(some 21), 23, .mv (.t 1), none, []⟩, ⟨(some 22), 24, .bin .lss (.t 21) (.c (.i .i64 0)), none, []⟩])
  (.cond (.t 22)
  (.seq (.ops [⟨(some 4), 6, .mv (.c (.i .i64 (-1))), none, []⟩])
  .ret)
  .skip))
  (.seq (.ops [⟨(some 23), 25, .mv (.t 1), none, []⟩, ⟨(some 4), 6, .mv (.t 23), none, []⟩])
  .ret))))))))
theorem k158 : compCode Try.prog Try.f158.ntmps Try.f158.body.get! = some c158 := by kernel_rfl
theorem r158 : resTmps Try.prog Try.f158.results.toList = some [.tmp 4] := by kernel_rfl
/- laws.toTable -/
def c159 : TCode := (.seq (.ops [⟨(some 1), 3, .box 3 (.t 0), none, []⟩, ⟨(some 2), 4, .box 3 (.c (.ag [(.sl true 1 []), (.sl true 2 []), (.sl true 1 [])])), none, []⟩])
  (.seq (.ops [⟨(some 3), 5, .box 3 (.c (.ag [(.sl true 1 []), (.sl true 2 []), (.sl true 1 [])])), none, []⟩])
  (.seq (.ops [⟨(some 4), 6, .faddr 0 1 (.t 1), none, []⟩, ⟨(some 5), 7, .load false 1 (.t 4), none, []⟩, ⟨(some 6), 8, .call 52 [((.t 5), 0)], none, []⟩, ⟨(some 7), 9, .faddr 0 1 (.t 3), none, []⟩, ⟨none, 1002004, .store 1 (.t 7) (.t 6), none, []⟩])
  (.seq (.ops [⟨(some 8), 10, .faddr 1 1 (.t 1), none, []⟩, ⟨(some 9), 11, .load false 1 (.t 8), none, []⟩, ⟨(some 10), 12, .call 196 [((.t 9), 0)], none, []⟩, ⟨(some 11), 13, .faddr 1 1 (.t 3), none, []⟩, ⟨none, 1003004, .store 1 (.t 11) (.t 10), none, []⟩])
  (.seq (.ops [⟨(some 12), 14, .faddr 2 1 (.t 1), none, []⟩, ⟨(some 13), 15, .load false 1 (.t 12), none, []⟩, ⟨(some 14), 16, .call 197 [((.t 13), 0)], none, []⟩, ⟨(some 15), 17, .faddr 2 1 (.t 3), none, []⟩, ⟨none, 1004004, .store 1 (.t 15) (.t 14), none, []⟩])
  (.seq (.ops [⟨(some 16), 18, .load true 3 (.t 3), none, []⟩, ⟨none, 1005001, .store 3 (.t 2) (.t 16), none, []⟩])
  .ret))))))
theorem k159 : compCode Try.prog Try.f159.ntmps Try.f159.body.get! = some c159 := by kernel_rfl
theorem r159 : resTmps Try.prog Try.f159.results.toList = some [.cell 2 true 3] := by kernel_rfl
/- laws.eqTable -/
def c162 : TCode := (.seq (.ops [⟨(some 2), 4, .box 3 (.t 0), none, []⟩, ⟨(some 3), 5, .box 3 (.t 1), none, []⟩, ⟨(some 4), 6, .mv (.c (.b false)), none, []⟩])
  (.seq (.seq (.ops [⟨(some 5), 7, .faddr 0 1 (.t 2), none, []⟩, ⟨(some 6), 8, .load false 1 (.t 5), none, []⟩, ⟨(some 7), 9, .faddr 0 1 (.t 3), none, []⟩, ⟨(some 8), 10, .load false 1 (.t 7), none, []⟩, ⟨(some 9), 11, .call 31 [((.t 6), 0), ((.t 8), 0)], none, []⟩, ⟨(some 10), 12, .un .not (.t 9), none, []⟩])
  (.cond (.t 10)
  (.seq (.ops [⟨(some 4), 6, .mv (.c (.b false)), none, []⟩])
  .ret)
  .skip))
  (.seq (.seq (.ops [⟨(some 11), 13, .faddr 1 1 (.t 2), none, []⟩, ⟨(some 12), 14, .load false 1 (.t 11), none, []⟩, ⟨(some 13), 15, .faddr 1 1 (.t 3), none, []⟩, ⟨(some 14), 16, .load false 1 (.t 13), none, []⟩, ⟨(some 15), 17, .call 54 [((.t 12), 0), ((.t 14), 0)], none, []⟩, ⟨(some 16), 18, .un .not (.t 15), none, []⟩])
  (.cond (.t 16)
  (.seq (.ops [⟨(some 4), 6, .mv (.c (.b false)), none, []⟩])
  .ret)
  .skip))
  (.seq (.seq (.ops [⟨(some 17), 19, .faddr 2 1 (.t 2), none, []⟩, ⟨(some 18), 20, .load false 1 (.t 17), none, []⟩, ⟨(some 19), 21, .faddr 2 1 (.t 3), none, []⟩, ⟨(some 20), 22, .load false 1 (.t 19), none, []⟩, ⟨(some 21), 23, .call 198 [((.t 18), 0), ((.t 20), 0)], none, []⟩, ⟨(some 22), 24, .un .not (.t 21), none, []⟩])
  (.cond (.t 22)
  (.seq (.ops [⟨(some 4), 6, .mv (.c (.b false)), none, []⟩])
  .ret)
  .skip))
  (.seq (.ops [⟨(some 4), 6, .mv (.c (.b true)), none, []⟩])
  .ret)))))
theorem k162 : compCode Try.prog Try.f162.ntmps Try.f162.body.get! = some c162 := by kernel_rfl
theorem r162 : resTmps Try.prog Try.f162.results.toList = some [.tmp 4] := by kernel_rfl
/- laws.szTableS -/
def c98 : TCode := (.seq (.ops [⟨(some 4), 6, .mv (.c (.i .i64 0)), none, []⟩])
  (.seq (.ops [⟨(some 6), 8, .mv (.t 1), none, []⟩, ⟨(some 7), 9, .mv (.t 0), none, []⟩, ⟨(some 8), 10, .len false (.t 7), none, []⟩, ⟨(some 9), 11, .bin .sub (.t 6) (.t 8), none, []⟩, ⟨(some 1), 3, .mv (.t 9), none, []⟩])
  (.seq (.seq (.ops [⟨(some 10), 12, .mv (.t 1), none, []⟩, ⟨(some 11), 13, .bin .lss (.t 10) (.c (.i .i64 0)), none, []⟩])
  (.cond (.t 11)
  (.seq (.ops [⟨(some 4), 6, .mv (.c (.i .i64 (-1))), none, []⟩])
  .ret)
  .skip))
  (.seq (.seq (.ops [⟨(some 5), 7, .mv (.c (.i .i64 0)), none, []⟩])
  (.block 0 (.loop (.seq (.seq (.ops [⟨(some 12), 14, .mv (.t 5), none, []⟩, ⟨(some 13), 15, .mv (.t 0), none, []⟩, ⟨(some 14), 16, .len false (.t 13), none, []⟩, ⟨(some 15), 17, .bin .lss (.t 12) (.t 14), none, []⟩])
  (.cond (.t 15)
  .skip
  (.exit 0)))
  (.seq (.block 1 (.seq (.ops [⟨(some 18), 20, .mv (.t 0), none, []⟩, ⟨(some 19), 21, .mv (.t 5), none, []⟩, ⟨(some 20), 22, .iaddr 3 (.t 18) (.t 19), none, []⟩, ⟨(some 21), 23, .load true 3 (.t 20), none, []⟩, ⟨(some 22), 24, .mv (.t 1), none, []⟩, ⟨(some 23), 25, .call 158 [((.t 21), 0), ((.t 22), 0)], none, []⟩, ⟨(some 1), 3, .mv (.t 23), none, []⟩])
  (.seq (.ops [⟨(some 24), 26, .mv (.t 1), none, []⟩, ⟨(some 25), 27, .bin .lss (.t 24) (.c (.i .i64 0)), none, []⟩])
  (.cond (.t 25)
  (.seq (.ops [⟨(some 4), 6, .mv (.c (.i .i64 (-1))), none, []⟩])
  .ret)
  .skip))))
  (.ops [⟨(some 16), 18, .mv (.t 5), none, []⟩, ⟨(some 17), 19, .bin .add (.t 16) (.c (.i .i64 1)), none, []⟩, ⟨(some 5), 7, .mv (.t 17), none, []⟩]))))))
  (.seq (.ops [⟨(some 26), 28, .mv (.t 1), none, []⟩, ⟨(some 4), 6, .mv (.t 26), none, []⟩])
  .ret)))))
theorem k98 : compCode Try.prog Try.f98.ntmps Try.f98.body.get! = some c98 := by kernel_rfl
theorem r98 : resTmps Try.prog Try.f98.results.toList = some [.tmp 4] := by kernel_rfl
/- laws.toTableS -/
def c102 : TCode := (.seq (.ops [⟨(some 2), 4, .mv (.c (.sl true 3 [])), none, []⟩])
  (.seq (.ops [⟨(some 5), 7, .mv (.t 0), none, []⟩, ⟨(some 6), 8, .len false (.t 5), none, []⟩, ⟨(some 7), 9, .mkslice 3 72 [(.sl true 1 []), (.sl true 2 []), (.sl true 1 [])] (.t 6) (.t 6), none, []⟩, ⟨(some 3), 5, .mv (.t 7), none, []⟩])
  (.seq (.seq (.ops [⟨(some 4), 6, .mv (.c (.i .i64 0)), none, []⟩])
  (.block 0 (.loop (.seq (.seq (.ops [⟨(some 8), 10, .mv (.t 4), none, []⟩, ⟨(some 9), 11, .mv (.t 0), none, []⟩, ⟨(some 10), 12, .len false (.t 9), none, []⟩, ⟨(some 11), 13, .bin .lss (.t 8) (.t 10), none, []⟩])
  (.cond (.t 11)
  .skip
  (.exit 0)))
  (.seq (.block 1 (.ops [⟨(some 14), 16, .mv (.t 3), none, []⟩, ⟨(some 15), 17, .mv (.t 4), none, []⟩, ⟨(some 16), 18, .mv (.t 0), none, []⟩, ⟨(some 17), 19, .mv (.t 4), none, []⟩, ⟨(some 18), 20, .iaddr 3 (.t 16) (.t 17), none, []⟩, ⟨(some 19), 21, .load true 3 (.t 18), none, []⟩, ⟨(some 20), 22, .call 159 [((.t 19), 0)], none, []⟩, ⟨(some 21), 23, .iaddr 3 (.t 14) (.t 15), none, []⟩, ⟨none, 1005008, .store 3 (.t 21) (.t 20), none, []⟩]))
  (.ops [⟨(some 12), 14, .mv (.t 4), none, []⟩, ⟨(some 13), 15, .bin .add (.t 12) (.c (.i .i64 1)), none, []⟩, ⟨(some 4), 6, .mv (.t 13), none, []⟩]))))))
  (.seq (.ops [⟨(some 22), 24, .mv (.t 3), none, []⟩, ⟨(some 2), 4, .mv (.t 22), none, []⟩])
  .ret))))
theorem k102 : compCode Try.prog Try.f102.ntmps Try.f102.body.get! = some c102 := by kernel_rfl
theorem r102 : resTmps Try.prog Try.f102.results.toList = some [.tmp 2] := by kernel_rfl
/- laws.eqTableS -/
def c109 : TCode := (.seq (.ops [⟨(some 4), 6, .mv (.c (.b false)), none, []⟩])
  (.seq (.seq (.ops [⟨(some 6), 8, .mv (.t 0), none, []⟩, ⟨(some 7), 9, .len false (.t 6), none, []⟩, ⟨(some 8), 10, .mv (.t 1), none, []⟩, ⟨(some 9), 11, .len false (.t 8), none, []⟩, ⟨(some 10), 12, .bin .neq (.t 7) (.t 9), none, []⟩])
  (.cond (.t 10)
  (.seq (.ops [⟨(some 4), 6, .mv (.c (.b false)), none, []⟩])
  .ret)
  .skip))
  (.seq (.seq (.ops [⟨(some 5), 7, .mv (.c (.i .i64 0)), none, []⟩])
  (.block 0 (.loop (.seq (.seq (.ops [⟨(some 11), 13, .mv (.t 5), none, []⟩, ⟨(some 12), 14, .mv (.t 0), none, []⟩, ⟨(some 13), 15, .len false (.t 12), none, []⟩, ⟨(some 14), 16, .bin .lss (.t 11) (.t 13), none, []⟩])
  (.cond (.t 14)
  .skip
  (.exit 0)))
  (.seq (.block 1 (.seq (.draw [⟨(some 17), 19, .mv (.t 0), none, []⟩, ⟨(some 18), 20, .mv (.t 5), none, []⟩, ⟨(some 19), 21, .iaddr 3 (.t 17) (.t 18), none, []⟩, ⟨(some 20), 22, .load true 3 (.t 19), none, []⟩, ⟨(some 21), 23, .mv (.t 1), none, []⟩, ⟨(some 22), 24, .mv (.t 5), none, []⟩, ⟨(some 23), 25, .iaddr 3 (.t 21) (.t 22), none, []⟩, ⟨(some 24), 26, .load true 3 (.t 23), none, []⟩, ⟨(some 25), 27, .call 162 [((.t 20), 0), ((.t 24), 0)], none, []⟩, ⟨(some 26), 28, .un .not (.t 25), none, []⟩])
  (.cond (.t 26)
  (.seq (.ops [⟨(some 4), 6, .mv (.c (.b false)), none, []⟩])
  .ret)
  .skip)))
  (.ops [⟨(some 15), 17, .mv (.t 5), none, []⟩, ⟨(some 16), 18, .bin .add (.t 15) (.c (.i .i64 1)), none, []⟩, ⟨(some 5), 7, .mv (.t 16), none, []⟩]))))))
  (.seq (.ops [⟨(some 4), 6, .mv (.c (.b true)), none, []⟩])
  .ret))))
theorem k109 : compCode Try.prog Try.f109.ntmps Try.f109.body.get! = some c109 := by kernel_rfl
theorem r109 : resTmps Try.prog Try.f109.results.toList = some [.tmp 4] := by kernel_rfl
/- laws.szWorld -/
def c49 : TCode := (.seq (.ops [⟨(some 2), 4, .box 4 (.t 0), none, []⟩, ⟨(some 4), 6, .mv (.c (.i .i64 0)), none, []⟩])
  (.seq (.ops [⟨(some 5), 7, .faddr 0 2 (.t 2), none, []⟩, ⟨(some 6), 8, .load true 2 (.t 5), none, []⟩, ⟨(some 7), 9, .mv (.t 1), none, []⟩, ⟨(some 8), 10, .call 97 [((.t 6), 0), ((.t 7), 0)], none, []⟩, ⟨(some 1), 3, .mv (.t 8), none, []⟩])
  (.seq (.seq (.ops [⟨(some 9), 11, .mv (.t 1), none, []⟩, ⟨(some 10), 12, .bin .lss (.t 9) (.c (.i .i64 0)), none, []⟩])
  (.cond (.t 10)
  (.seq (.ops [⟨(some 4), 6, .mv (.c (.i .i64 (-1))), none, []⟩])
  .ret)
  .skip))
  (.seq (.ops [⟨(some 11), 13, .faddr 2 1 (.t 2), none, []⟩, ⟨(some 12), 14, .load false 1 (.t 11), none, []⟩, ⟨(some 13), 15, .mv (.t 1), none, []⟩, ⟨(some 14), 16, .call 98 [((.t 12), 0), ((.t 13), 0)], none, []⟩, ⟨(some 1), 3, .mv (.t 14), none, []⟩])
  (.seq (.seq (.ops [⟨(some 15), 17, .mv (.t 1), none, []⟩, ⟨(some 16), 18, .bin .lss (.t 15) (.c (.i .i64 0)), none, []⟩])
  (.cond (.t 16)
  (.seq (.ops [⟨(some 4), 6, .mv (.c (.i .i64 (-1))), none, []⟩])
  .ret)
  .skip))
  (.seq (.ops [⟨(some 17), 19, .faddr 3 1 (.t 2), none, []⟩, ⟨(some 18), 20, .load false 1 (.t 17), none, []⟩, ⟨(some 19), 21, .mv (.t 1), none, []⟩, ⟨(some 20), 22, .call 99 [((.t 18), 0), ((.t 19), 0)], none, []⟩, ⟨(some 1), 3, .mv (.t 20), none, []⟩])
  (.seq (.seq (.ops [⟨(some 21), 23, .mv (.t 1), none, []⟩, ⟨(some 22), 24, .bin .lss (.t 21) (.c (.i .i64 0)), none, []⟩])
  (.cond (.t 22)
  (.seq (.ops [⟨(some 4), 6, .mv (.c (.i .i64 (-1))), none, []⟩])
  .ret)
  .skip))
  (.seq (.ops [⟨(some 23), 25, .mv (.t 1), none, []⟩, ⟨(some 4), 6, .mv (.t 23), none, []⟩])
  .ret))))))))
theorem k49 : compCode Try.prog Try.f49.ntmps Try.f49.body.get! = some c49 := by kernel_rfl
theorem r49 : resTmps Try.prog Try.f49.results.toList = some [.tmp 4] := by kernel_rfl
/- laws.toWorld -/
def c51 : TCode := (.seq (.ops [⟨(some 1), 3, .box 4 (.t 0), none, []⟩, ⟨(some 2), 4, .box 4 (.c (.ag [(.sl true 1 []), (.sl true 1 []), (.sl true 3 []), (.sl true 4 [])])), none, []⟩])
  (.seq (.ops [⟨(some 3), 5, .box 4 (.c (.ag [(.sl true 1 []), (.sl true 1 []), (.sl true 3 []), (.sl true 4 [])])), none, []⟩])
  (.seq (.ops [⟨(some 4), 6, .faddr 0 2 (.t 1), none, []⟩, ⟨(some 5), 7, .load true 2 (.t 4), none, []⟩, ⟨(some 6), 8, .call 101 [((.t 5), 0)], none, []⟩, ⟨(some 7), 9, .faddr 0 2 (.t 3), none, []⟩, ⟨none, 1002004, .store 2 (.t 7) (.t 6), none, []⟩])
  (.seq (.ops [⟨(some 8), 10, .faddr 2 1 (.t 1), none, []⟩, ⟨(some 9), 11, .load false 1 (.t 8), none, []⟩, ⟨(some 10), 12, .call 102 [((.t 9), 0)], none, []⟩, ⟨(some 11), 13, .faddr 2 1 (.t 3), none, []⟩, ⟨none, 1003004, .store 1 (.t 11) (.t 10), none, []⟩])
  (.seq (.ops [⟨(some 12), 14, .faddr 3 1 (.t 1), none, []⟩, ⟨(some 13), 15, .load false 1 (.t 12), none, []⟩, ⟨(some 14), 16, .call 103 [((.t 13), 0)], none, []⟩, ⟨(some 15), 17, .faddr 3 1 (.t 3), none, []⟩, ⟨none, 1004004, .store 1 (.t 15) (.t 14), none, []⟩])
  (.seq (.ops [⟨(some 16), 18, .load true 4 (.t 3), none, []⟩, ⟨none, 1005001, .store 4 (.t 2) (.t 16), none, []⟩])
  .ret))))))
theorem k51 : compCode Try.prog Try.f51.ntmps Try.f51.body.get! = some c51 := by kernel_rfl
theorem r51 : resTmps Try.prog Try.f51.results.toList = some [.cell 2 true 4] := by kernel_rfl
/- laws.eqWorld -/
def c55 : TCode := (.seq (.ops [⟨(some 2), 4, .box 4 (.t 0), none, []⟩, ⟨(some 3), 5, .box 4 (.t 1), none, []⟩, ⟨(some 4), 6, .mv (.c (.b false)), none, []⟩])
  (.seq (.seq (.ops [⟨(some 5), 7, .faddr 0 2 (.t 2), none, []⟩, ⟨(some 6), 8, .load true 2 (.t 5), none, []⟩, ⟨(some 7), 9, .faddr 0 2 (.t 3), none, []⟩, ⟨(some 8), 10, .load true 2 (.t 7), none, []⟩, ⟨(some 9), 11, .call 108 [((.t 6), 0), ((.t 8), 0)], none, []⟩, ⟨(some 10), 12, .un .not (.t 9), none, []⟩])
  (.cond (.t 10)
  (.seq (.ops [⟨(some 4), 6, .mv (.c (.b false)), none, []⟩])
  .ret)
  .skip))
  (.seq (.seq (.ops [⟨(some 11), 13, .faddr 2 1 (.t 2), none, []⟩, ⟨(some 12), 14, .load false 1 (.t 11), none, []⟩, ⟨(some 13), 15, .faddr 2 1 (.t 3), none, []⟩, ⟨(some 14), 16, .load false 1 (.t 13), none, []⟩, ⟨(some 15), 17, .call 109 [((.t 12), 0), ((.t 14), 0)], none, []⟩, ⟨(some 16), 18, .un .not (.t 15), none, []⟩])
  (.cond (.t 16)
  (.seq (.ops [⟨(some 4), 6, .mv (.c (.b false)), none, []⟩])
  .ret)
  .skip))
  (.seq (.seq (.ops [⟨(some 17), 19, .faddr 3 1 (.t 2), none, []⟩, ⟨(some 18), 20, .load false 1 (.t 17), none, []⟩, ⟨(some 19), 21, .faddr 3 1 (.t 3), none, []⟩, ⟨(some 20), 22, .load false 1 (.t 19), none, []⟩, ⟨(some 21), 23, .call 110 [((.t 18), 0), ((.t 20), 0)], none, []⟩, ⟨(some 22), 24, .un .not (.t 21), none, []⟩])
  (.cond (.t 22)
  (.seq (.ops [⟨(some 4), 6, .mv (.c (.b false)), none, []⟩])
  .ret)
  .skip))
  (.seq (.ops [⟨(some 4), 6, .mv (.c (.b true)), none, []⟩])
  .ret)))))
theorem k55 : compCode Try.prog Try.f55.ntmps Try.f55.body.get! = some c55 := by kernel_rfl
theorem r55 : resTmps Try.prog Try.f55.results.toList = some [.tmp 4] := by kernel_rfl

/-- Rows whose cells hold slices: one's own, and only read. -/
theorem fzLL_mapR {α : Type} {f g : α → List TV} (h : ∀ x, fzL (f x) = g x) (l : List α) : fzLL (l.map f) = l.map g := by
  induction l with
  | nil => rfl
  | cons a l ih => simp [fzLL, h, ih]

@[simp] def cvT (v : List ValP) : List TV := [.sl false 4 (v.map vT)]
@[simp] def cvO (v : List ValP) : List TV := [.sl true 4 (v.map vT)]
@[simp] theorem fzL_cvT (v : List ValP) : fzL (cvT v) = cvT v := by simp
@[simp] theorem fzL_cvO (v : List ValP) : fzL (cvO v) = cvT v := by simp
@[simp] theorem fzLL_cvT (l : List (List ValP)) : fzLL (l.map cvT) = l.map cvT := fzLL_map fzL_cvT l
@[simp] theorem fzLL_cvO (l : List (List ValP)) : fzLL (l.map cvO) = l.map cvT := fzLL_mapR fzL_cvO l
@[simp] theorem noROLL_cvO (l : List (List ValP)) : noROLL (l.map cvO) = true := noROLL_map (fun _ => by simp [noROL, noRO]) l
@[simp] theorem noref_cvT (l : List (List ValP)) : (l.map cvT).all (·.all noref) = true := noref_map (fun _ => by simp) l

abbrev EntP := Int × Int
abbrev TableP := List Int × List (Int × Int) × List (List ValP)
@[simp] def tbT (t : TableP) : List TV := [.sl false 1 (t.1.map iT), .sl false 2 (t.2.1.map eT), .sl false 1 (t.2.2.map cvT)]
@[simp] def tbO (t : TableP) : List TV := [.sl true 1 (t.1.map iT), .sl true 2 (t.2.1.map eT), .sl true 1 (t.2.2.map cvO)]
@[simp] theorem fzL_tbT (t : TableP) : fzL (tbT t) = tbT t := by simp
@[simp] theorem fzL_tbO (t : TableP) : fzL (tbO t) = tbT t := by simp
@[simp] theorem fzLL_tbT (l : List TableP) : fzLL (l.map tbT) = l.map tbT := fzLL_map fzL_tbT l
@[simp] theorem fzLL_tbO (l : List TableP) : fzLL (l.map tbO) = l.map tbT := fzLL_mapR fzL_tbO l
@[simp] theorem noROLL_tbO (l : List TableP) : noROLL (l.map tbO) = true := noROLL_map (fun _ => by simp [noROL, noRO]) l
@[simp] theorem noref_tbT (l : List TableP) : (l.map tbT).all (·.all noref) = true := noref_map (fun _ => by simp) l
abbrev tableR (t : TableP) : TV := .ag (tbT t)
abbrev tableO (t : TableP) : TV := .ag (tbO t)
abbrev worldR (g f : List Int) (ts : List TableP) (rs : List ValP) : TV := .ag [.sl false 1 (g.map iT), .sl false 1 (f.map iT), .sl false 3 (ts.map tbT), .sl false 4 (rs.map vT)]
abbrev worldO (g f : List Int) (ts : List TableP) (rs : List ValP) : TV := .ag [.sl true 1 (g.map iT), .sl true 1 (f.map iT), .sl true 3 (ts.map tbO), .sl true 4 (rs.map vT)]

/-! ### sizes -/
def sumN {α : Type} (c : α → Nat) : List α → Nat
  | [] => 0
  | x :: l => c x + sumN c l
theorem sumN_mem {α : Type} {c : α → Nat} {x : α} : ∀ {l : List α}, x ∈ l → c x ≤ sumN c l
  | y :: l, h => by
    rcases List.mem_cons.1 h with rfl | h
    · simp [sumN]
    · have := sumN_mem (c := c) h; simp only [sumN]; omega
theorem sumN_snoc {α : Type} (c : α → Nat) (l : List α) (x : α) : sumN c (l ++ [x]) = sumN c l + c x := by
  induction l with
  | nil => simp [sumN]
  | cons y l ih => simp [sumN, ih]; omega
theorem sumN_take {α : Type} (c : α → Nat) (l : List α) (j : Nat) : sumN c (l.take j) ≤ sumN c l := by
  induction l generalizing j with
  | nil => simp [sumN]
  | cons y l ih => cases j with
    | zero => simp [sumN]
    | succ j => have := ih j; simp only [List.take_succ_cons, sumN]; omega
/-- What is taken off, told as a sum. -/
structure SzC {α : Type} (f : α → Int → Int) (c : α → Nat) : Prop where
  le : ∀ x m, 0 ≤ m → f x m ≤ m
  neg : ∀ x m, f x m < 0 → f x m = -1
  eq : ∀ x m, 0 ≤ m → 0 ≤ f x m → f x m = m - c x
theorem szA_eq {α : Type} {f : α → Int → Int} {c : α → Nat} (h : SzC f c) : ∀ (l : List α) (n : Int), 0 ≤ n → 0 ≤ szA f l n → szA f l n = n - sumN c l
  | [], n, _, _ => by simp [sumN]
  | x :: l, n, h0, h1 => by
    have e : szA f (x :: l) n = szA f l (f x n) := by show szA f l (if n < 0 then -1 else f x n) = _; rw [if_neg (by omega)]
    rw [e] at h1 ⊢
    have hx : 0 ≤ f x n := by
      rcases Int.lt_or_le (f x n) 0 with h' | h'
      · rw [h.neg x n h', szA_neg f l _ rfl] at h1; omega
      · exact h'
    rw [szA_eq h l _ hx h1, h.eq x n h0 hx]
    simp only [sumN]; omega
theorem szS_C {α : Type} {f : α → Int → Int} {c : α → Nat} (h : SzC f c) : SzC (fun (l : List α) n => szS f l n) (fun l => l.length + sumN c l) := by
  refine ⟨fun l m h0 => ?_, fun l m h1 => szS_neg h.neg l m h1, fun l m h0 h1 => ?_⟩
  · rcases Int.lt_or_le (szS f l m) 0 with h' | h'
    · omega
    · exact (szS_lo h.le h0 (by omega)).2.1
  · obtain ⟨_, _, h4, _⟩ := szS_lo h.le h0 (by omega : ¬ szS f l m < 0)
    have e : szF m l.length = m - l.length := by unfold szF; rw [if_neg (by omega)]
    have e2 : szS f l m = szA f l (m - l.length) := by unfold szS; rw [e, if_neg (by omega)]
    show szS f l m = _
    rw [e2] at h1 ⊢
    rw [szA_eq h l _ (by omega) h1]; omega
theorem szF_C {α : Type} (c : α → Nat) : SzC (fun (x : α) n => szF n (c x)) c := by
  refine ⟨fun x m h => ?_, fun x m h => szF_neg _ _ h, fun x m h0 h => ?_⟩
  · show szF m (c x) ≤ m
    unfold szF; split <;> omega
  · revert h; show 0 ≤ szF m (c x) → szF m (c x) = _
    unfold szF; split <;> omega
/-- One behind the other. -/
def szTwo {α : Type} (f g : α → Int → Int) (x : α) (n : Int) : Int := if f x n < 0 then -1 else g x (f x n)
theorem szTwo_C {α : Type} {f g : α → Int → Int} {c d : α → Nat} (hf : SzC f c) (hg : SzC g d) : SzC (szTwo f g) (fun x => c x + d x) := by
  refine ⟨fun x m h => ?_, fun x m h => ?_, fun x m h0 h => ?_⟩
  · unfold szTwo; split
    · omega
    · have := hf.le x m h; have := hg.le x (f x m) (by omega); omega
  · revert h; unfold szTwo; split
    · omega
    · exact hg.neg _ _
  · revert h; unfold szTwo; split
    · omega
    · intro h1
      rw [hg.eq x _ (by omega) h1, hf.eq x m h0 (by omega)]; omega

theorem w194 (l : List (Int × Int)) (n : Int) (hl : l.length < 2^63) (hn : n < 2^62) (hn0 : 0 ≤ n) : Contract Try.prog false 194 [.ro, .ro] [.sl false 2 (l.map eT), .i .i64 n] [.i .i64 (szF n l.length)] [] := by
  refine mk_contract [] Try.func194 (c := Try.f194.body.get!) (by kernel_rfl) k194 r194 (of_decide_eq_true rfl) fun _ => ?_
  have hw : IntKind.i64.wrap (n - l.length) = n - l.length := wrap_id (by omega) (by omega)
  unfold c194; unfold szF; simp [hw]
  omega
def szVF (v : List ValP) (n : Int) : Int := szF n v.length
theorem szV_C : SzC szVF (fun v => v.length) := szF_C _
theorem w195 (l : List (List ValP)) (n : Int) (hl : l.length < 2^63) (hd : ∀ v ∈ l, v.length < 2^63) (hn : n < 2^62) (hn0 : 0 ≤ n) : Contract Try.prog false 195 [.ro, .ro] [.sl false 1 (l.map cvT), .i .i64 n] [.i .i64 (szS szVF l n)] [] := by
  refine mk_contract [] Try.func195 (c := Try.f195.body.get!) (by kernel_rfl) k195 r195 (of_decide_eq_true rfl) fun _ => ?_
  have hw : IntKind.i64.wrap (n - l.length) = n - l.length := wrap_id (by omega) (by omega)
  unfold c195; simp [hw]
  refine ⟨fun h => ?_, fun h => ?_⟩
  · simp [szS, szF, h]
  have e : szF n l.length = n - l.length := by unfold szF; rw [if_neg (by omega)]
  have e2 : szS szVF l n = szA szVF l (n - l.length) := by unfold szS; rw [e, if_neg (by omega)]
  rw [e2]
  refine twp_for l.length (fun j s => s.t 0 = .sl false 1 (l.map cvT) ∧ s.t 1 = .i .i64 (szA szVF (l.take j) (n - l.length)) ∧ s.t 5 = .i .i64 j ∧ 0 ≤ szA szVF (l.take j) (n - l.length) ∧ s.H = lk [(1, [])]) [] (by simp) ?_ ?_
  · simp; omega
  · rintro j s hj ⟨q0, q1, q5, h0, qH⟩
    rw [nf_of qH]
    simp [q0, q1, q5]
    refine ⟨fun hlt => ?_, fun hge => ?_⟩
    · have hw : IntKind.i64.wrap (j + 1) = j + 1 := wrap_id (by omega) (by omega)
      obtain ⟨x, hx⟩ := get_some hlt
      have hle := (szA_ok szV_C.le (l.take j) _ h0 (by omega)).1
      have hs : szA szVF (l.take (j + 1)) (n - l.length) = szVF x (szA szVF (l.take j) (n - l.length)) := by
        rw [take_snoc hx, szA_snoc, if_neg (by omega)]
      have hng := szV_C.neg x (szA szVF (l.take j) (n - l.length))
      have hng2 := szA_take szVF l (n - l.length) (j + 1)
      rw [hs] at hng2
      generalize szA szVF (l.take j) (n - l.length) = m at *
      simp [hx, hw, q0, q1, q5]
      refine callW_ms [.ro, .ro] ?_
      simp
      refine callX_of (w99 x m (hd x (List.mem_of_getElem? hx)) (by omega) h0) (by simp) ?_
      simp [hw, q0, q1, q5]
      have hu : szF m x.length = szVF x m := rfl
      rw [hu]
      generalize szVF x m = m' at *
      refine ⟨fun h1 => (hng2 (hng h1)).symm, fun h1 => ⟨hlt, by rw [hs], by rw [hs]; omega⟩⟩
    · obtain rfl : j = l.length := by omega
      simp [q0, q1, q5]
def szTF : TableP → Int → Int := szTwo (fun t n => szF n t.1.length) (szTwo (fun t n => szF n t.2.1.length) fun t n => szS szVF t.2.2 n)
def cT (t : TableP) : Nat := t.1.length + (t.2.1.length + (t.2.2.length + sumN (fun v => v.length) t.2.2))
theorem szT_C : SzC szTF cT := by
  have h3 : SzC (fun (t : TableP) n => szS szVF t.2.2 n) (fun t => t.2.2.length + sumN (fun v => v.length) t.2.2) :=
    ⟨fun t m h => (szS_C szV_C).le t.2.2 m h, fun t m h => (szS_C szV_C).neg t.2.2 m h, fun t m h0 h => (szS_C szV_C).eq t.2.2 m h0 h⟩
  exact szTwo_C (szF_C _) (szTwo_C (szF_C _) h3)
def bdT (t : TableP) : Prop := t.1.length < 2^63 ∧ t.2.1.length < 2^63 ∧ t.2.2.length < 2^63 ∧ ∀ v ∈ t.2.2, v.length < 2^63
theorem w158 (t : TableP) (n : Int) (hb : bdT t) (hn : n < 2^62) (hn0 : 0 ≤ n) : Contract Try.prog false 158 [.ro, .ro] [tableR t, .i .i64 n] [.i .i64 (szTF t n)] [] := by
  refine mk_contract [] Try.func158 (c := Try.f158.body.get!) (by kernel_rfl) k158 r158 (of_decide_eq_true rfl) fun _ => ?_
  obtain ⟨b1, b2, b3, b4⟩ := hb
  have e : szTF t n = if szF n t.1.length < 0 then -1 else if szF (szF n t.1.length) t.2.1.length < 0 then -1 else szS szVF t.2.2 (szF (szF n t.1.length) t.2.1.length) := rfl
  have hA := szF_le n t.1.length (by omega) hn0
  unfold c158; simp
  refine callW_ms [.ro, .ro] ?_
  simp
  refine callX_of (w68 t.1 n b1 hn hn0) (by simp) ?_
  simp
  refine ⟨fun h => ?_, fun h => ?_⟩
  · rw [e, if_pos h]
  rw [if_neg (by omega)] at e
  generalize szF n t.1.length = a at *
  have hB := szF_le a t.2.1.length (by omega) h
  refine callW_ms [.ro, .ro] ?_
  simp
  refine callX_of (w194 t.2.1 a b2 (by omega) h) (by simp) ?_
  simp
  refine ⟨fun h => ?_, fun h => ?_⟩
  · rw [e, if_pos h]
  rw [if_neg (by omega)] at e
  generalize szF a t.2.1.length = b at *
  refine callW_ms [.ro, .ro] ?_
  simp
  refine callX_of (w195 t.2.2 b b3 b4 (by omega) h) (by simp) ?_
  simp
  rw [e]
  exact ⟨fun h => (szS_neg szV_C.neg _ _ h).symm, fun _ => rfl⟩
theorem w98 (l : List TableP) (n : Int) (hl : l.length < 2^63) (hd : ∀ t ∈ l, bdT t) (hn : n < 2^62) (hn0 : 0 ≤ n) : Contract Try.prog false 98 [.ro, .ro] [.sl false 3 (l.map tbT), .i .i64 n] [.i .i64 (szS szTF l n)] [] := by
  refine mk_contract [] Try.func98 (c := Try.f98.body.get!) (by kernel_rfl) k98 r98 (of_decide_eq_true rfl) fun _ => ?_
  have hw : IntKind.i64.wrap (n - l.length) = n - l.length := wrap_id (by omega) (by omega)
  unfold c98; simp [hw]
  refine ⟨fun h => ?_, fun h => ?_⟩
  · simp [szS, szF, h]
  have e : szF n l.length = n - l.length := by unfold szF; rw [if_neg (by omega)]
  have e2 : szS szTF l n = szA szTF l (n - l.length) := by unfold szS; rw [e, if_neg (by omega)]
  rw [e2]
  refine twp_for l.length (fun j s => s.t 0 = .sl false 3 (l.map tbT) ∧ s.t 1 = .i .i64 (szA szTF (l.take j) (n - l.length)) ∧ s.t 5 = .i .i64 j ∧ 0 ≤ szA szTF (l.take j) (n - l.length) ∧ s.H = lk [(1, [])]) [] (by simp) ?_ ?_
  · simp; omega
  · rintro j s hj ⟨q0, q1, q5, h0, qH⟩
    rw [nf_of qH]
    simp [q0, q1, q5]
    refine ⟨fun hlt => ?_, fun hge => ?_⟩
    · have hw : IntKind.i64.wrap (j + 1) = j + 1 := wrap_id (by omega) (by omega)
      obtain ⟨x, hx⟩ := get_some hlt
      have hle := (szA_ok szT_C.le (l.take j) _ h0 (by omega)).1
      have hs : szA szTF (l.take (j + 1)) (n - l.length) = szTF x (szA szTF (l.take j) (n - l.length)) := by
        rw [take_snoc hx, szA_snoc, if_neg (by omega)]
      have hng := szT_C.neg x (szA szTF (l.take j) (n - l.length))
      have hng2 := szA_take szTF l (n - l.length) (j + 1)
      rw [hs] at hng2
      generalize szA szTF (l.take j) (n - l.length) = m at *
      simp [hx, hw, q0, q1, q5]
      refine callW_ms [.ro, .ro] ?_
      simp
      refine callX_of (w158 x m (hd x (List.mem_of_getElem? hx)) (by omega) h0) (by simp) ?_
      simp [hw, q0, q1, q5]
      generalize szTF x m = m' at *
      refine ⟨fun h1 => (hng2 (hng h1)).symm, fun h1 => ⟨hlt, by rw [hs], by rw [hs]; omega⟩⟩
    · obtain rfl : j = l.length := by omega
      simp [q0, q1, q5]
abbrev WorldP := List Int × List Int × List TableP × List ValP
def szWF : WorldP → Int → Int := szTwo (fun w n => szEntsF w.1 w.2.1 n) (szTwo (fun w n => szS szTF w.2.2.1 n) fun w n => szF n w.2.2.2.length)
def cW (w : WorldP) : Nat := (w.1.length + w.2.1.length) + ((w.2.2.1.length + sumN cT w.2.2.1) + w.2.2.2.length)
theorem szE_C : SzC (fun (w : WorldP) n => szEntsF w.1 w.2.1 n) (fun w => w.1.length + w.2.1.length) :=
  szTwo_C (f := fun (w : WorldP) n => szF n w.1.length) (g := fun (w : WorldP) n => szF n w.2.1.length) (szF_C _) (szF_C _)
theorem szW_C : SzC szWF cW := by
  have h3 : SzC (fun (w : WorldP) n => szS szTF w.2.2.1 n) (fun w => w.2.2.1.length + sumN cT w.2.2.1) :=
    ⟨fun w m h => (szS_C szT_C).le w.2.2.1 m h, fun w m h => (szS_C szT_C).neg w.2.2.1 m h, fun w m h0 h => (szS_C szT_C).eq w.2.2.1 m h0 h⟩
  exact szTwo_C szE_C (szTwo_C h3 (szF_C _))
def bdW (w : WorldP) : Prop := w.1.length < 2^63 ∧ w.2.1.length < 2^63 ∧ (w.2.2.1.length < 2^63 ∧ ∀ t ∈ w.2.2.1, bdT t) ∧ w.2.2.2.length < 2^63
theorem w49 (w : WorldP) (n : Int) (hb : bdW w) (hn : n < 2^62) (hn0 : 0 ≤ n) : Contract Try.prog false 49 [.ro, .ro] [worldR w.1 w.2.1 w.2.2.1 w.2.2.2, .i .i64 n] [.i .i64 (szWF w n)] [] := by
  refine mk_contract [] Try.func49 (c := Try.f49.body.get!) (by kernel_rfl) k49 r49 (of_decide_eq_true rfl) fun _ => ?_
  obtain ⟨b1, b2, ⟨b3, b4⟩, b5⟩ := hb
  have e : szWF w n = if szEntsF w.1 w.2.1 n < 0 then -1 else if szS szTF w.2.2.1 (szEntsF w.1 w.2.1 n) < 0 then -1 else szF (szS szTF w.2.2.1 (szEntsF w.1 w.2.1 n)) w.2.2.2.length := rfl
  have hA : szEntsF w.1 w.2.1 n ≤ n := szE_C.le w n hn0
  unfold c49; simp
  refine callW_ms [.ro, .ro] ?_
  simp [entsR]
  refine callX_of (w97 w.1 w.2.1 n b1 b2 hn hn0) (by simp) ?_
  simp
  refine ⟨fun h => ?_, fun h => ?_⟩
  · rw [e, if_pos h]
  rw [if_neg (by omega)] at e
  generalize szEntsF w.1 w.2.1 n = a at *
  have hB : szS szTF w.2.2.1 a ≤ a := (szS_C szT_C).le w.2.2.1 a h
  refine callW_ms [.ro, .ro] ?_
  simp
  refine callX_of (w98 w.2.2.1 a b3 b4 (by omega) h) (by simp) ?_
  simp
  refine ⟨fun h => ?_, fun h => ?_⟩
  · rw [e, if_pos h]
  rw [if_neg (by omega)] at e
  generalize szS szTF w.2.2.1 a = b at *
  refine callW_ms [.ro, .ro] ?_
  simp
  refine callX_of (w99 w.2.2.2 b b5 (by omega) h) (by simp) ?_
  simp
  rw [e]
  exact ⟨fun h => (szF_neg _ _ h).symm, fun _ => rfl⟩

/-! ### copies -/
theorem w196 (l : List (Int × Int)) (hl : l.length ≤ 2^40) : Contract Try.prog false 196 [.ro] [.sl false 2 (l.map eT)] [.sl true 2 (l.map eT)] [] := by
  refine mk_contract [] Try.func196 (c := Try.f196.body.get!) (by kernel_rfl) k196 r196 (of_decide_eq_true rfl) fun _ => ?_
  unfold c196; simp
  refine ⟨by omega, ?_⟩
  refine twp_for l.length (fun j s => s.t 0 = .sl false 2 (l.map eT) ∧ s.t 3 = .rf [(9, 0)] 0 l.length ∧ s.t 4 = .i .i64 j ∧ s.H = lk [(1, []), (9, [.sl true 2 ((l.map eT).take j ++ List.replicate (l.length - j) [.i .i64 0, .i .i64 0])])]) [] (by simp) ?_ ?_
  · simp
  · rintro j s hj ⟨q0, q3, q4, qH⟩
    rw [nf_of qH]
    simp [q0, q3, q4]
    refine ⟨fun hlt => ?_, fun hge => ?_⟩
    · have hw : IntKind.i64.wrap (j + 1) = j + 1 := wrap_id (by omega) (by omega)
      obtain ⟨x, hx⟩ := get_some hlt
      have hmin : min j l.length = j := by omega
      simp [hx, hw, q0, q3, q4]
      refine callW_ms [.ro] ?_
      simp [entT]
      refine callX_of (w60 x.1 x.2) (by simp) ?_
      simp [entT, hw, q0, q3, q4, rep_at hlt, mapsnoc hx, hmin]
      omega
    · obtain rfl : j = l.length := by omega
      simp [q0, q3, q4]
theorem w197 (l : List (List ValP)) (hl : l.length ≤ 2^40) (hd : ∀ v ∈ l, v.length ≤ 2^40) : Contract Try.prog false 197 [.ro] [.sl false 1 (l.map cvT)] [.sl true 1 (l.map cvO)] [] := by
  refine mk_contract [] Try.func197 (c := Try.f197.body.get!) (by kernel_rfl) k197 r197 (of_decide_eq_true rfl) fun _ => ?_
  unfold c197; simp
  refine ⟨by omega, ?_⟩
  refine twp_for l.length (fun j s => s.t 0 = .sl false 1 (l.map cvT) ∧ s.t 3 = .rf [(9, 0)] 0 l.length ∧ s.t 4 = .i .i64 j ∧ s.H = lk [(1, []), (9, [.sl true 1 ((l.map cvO).take j ++ List.replicate (l.length - j) [.sl true 4 []])])]) [22] (by simp) ?_ ?_
  · simp
  · rintro j s hj ⟨q0, q3, q4, qH⟩
    rw [nf_of qH]
    simp [q0, q3, q4]
    refine ⟨fun hlt => ?_, fun hge => ?_⟩
    · have hw : IntKind.i64.wrap (j + 1) = j + 1 := wrap_id (by omega) (by omega)
      obtain ⟨x, hx⟩ := get_some hlt
      have hmin : min j l.length = j := by omega
      simp [hx, hw, q0, q3, q4]
      refine callW_ms [.ro] ?_
      simp
      refine callX_of (w103 x (hd x (List.mem_of_getElem? hx))) (by simp) ?_
      simp [hw, q0, q3, q4, rep_at hlt, mapsnoc hx, hmin]
      omega
    · obtain rfl : j = l.length := by omega
      simp [q0, q3, q4]
def okT (t : TableP) : Prop := t.1.length ≤ 2^36 ∧ t.2.1.length ≤ 2^36 ∧ t.2.2.length ≤ 2^36 ∧ ∀ v ∈ t.2.2, v.length ≤ 2^36
theorem w159 (t : TableP) (h : okT t) : Contract Try.prog false 159 [.ro] [tableR t] [tableO t] [] := by
  refine mk_contract [] Try.func159 (c := Try.f159.body.get!) (by kernel_rfl) k159 r159 (of_decide_eq_true rfl) fun _ => ?_
  obtain ⟨h1, h2, h3, h4⟩ := h
  unfold c159; simp
  refine callW_ms [.ro] ?_
  simp
  refine callX_of (w52 t.1 (by omega)) (by simp) ?_
  simp
  refine callW_ms [.ro] ?_
  simp
  refine callX_of (w196 t.2.1 (by omega)) (by simp) ?_
  simp
  refine callW_ms [.ro] ?_
  simp
  refine callX_of (w197 t.2.2 (by omega) (fun v hv => by have := h4 v hv; omega)) (by simp) ?_
  simp
theorem w102 (l : List TableP) (hl : l.length ≤ 2^36) (hd : ∀ t ∈ l, okT t) : Contract Try.prog false 102 [.ro] [.sl false 3 (l.map tbT)] [.sl true 3 (l.map tbO)] [] := by
  refine mk_contract [] Try.func102 (c := Try.f102.body.get!) (by kernel_rfl) k102 r102 (of_decide_eq_true rfl) fun _ => ?_
  unfold c102; simp
  refine ⟨by omega, ?_⟩
  refine twp_for l.length (fun j s => s.t 0 = .sl false 3 (l.map tbT) ∧ s.t 3 = .rf [(9, 0)] 0 l.length ∧ s.t 4 = .i .i64 j ∧ s.H = lk [(1, []), (9, [.sl true 3 ((l.map tbO).take j ++ List.replicate (l.length - j) [.sl true 1 [], .sl true 2 [], .sl true 1 []])])]) [22] (by simp) ?_ ?_
  · simp
  · rintro j s hj ⟨q0, q3, q4, qH⟩
    rw [nf_of qH]
    simp [q0, q3, q4]
    refine ⟨fun hlt => ?_, fun hge => ?_⟩
    · have hw : IntKind.i64.wrap (j + 1) = j + 1 := wrap_id (by omega) (by omega)
      obtain ⟨x, hx⟩ := get_some hlt
      have hmin : min j l.length = j := by omega
      simp [hx, hw, q0, q3, q4]
      refine callW_ms [.ro] ?_
      simp
      refine callX_of (w159 x (hd x (List.mem_of_getElem? hx))) (by simp) ?_
      simp [hw, q0, q3, q4, rep_at hlt, mapsnoc hx, hmin]
      omega
    · obtain rfl : j = l.length := by omega
      simp [q0, q3, q4]
def okW (w : WorldP) : Prop := w.1.length ≤ 2^36 ∧ w.2.1.length ≤ 2^36 ∧ (w.2.2.1.length ≤ 2^36 ∧ ∀ t ∈ w.2.2.1, okT t) ∧ w.2.2.2.length ≤ 2^36
theorem szW_ok {w : WorldP} {n : Int} (h0 : 0 ≤ n) (hn : n ≤ 2^36) (h : ¬ szWF w n < 0) : okW w ∧ (cW w : Int) ≤ n := by
  have e := szW_C.eq w n h0 (by omega)
  have hc : (cW w : Int) ≤ n := by omega
  refine ⟨⟨?_, ?_, ⟨?_, fun t ht => ?_⟩, ?_⟩, hc⟩
  · unfold cW at hc; omega
  · unfold cW at hc; omega
  · unfold cW at hc; omega
  · have h1 := sumN_mem (c := cT) ht
    have h2 : cT t ≤ 2^36 := by unfold cW at hc; omega
    refine ⟨?_, ?_, ?_, fun v hv => ?_⟩
    · unfold cT at h2; omega
    · unfold cT at h2; omega
    · unfold cT at h2; omega
    · have h3 : v.length ≤ sumN (fun v : List ValP => v.length) t.2.2 := sumN_mem (c := fun v : List ValP => v.length) hv
      unfold cT at h2; omega
  · unfold cW at hc; omega
theorem w51 (w : WorldP) (h : okW w) : Contract Try.prog false 51 [.ro] [worldR w.1 w.2.1 w.2.2.1 w.2.2.2] [worldO w.1 w.2.1 w.2.2.1 w.2.2.2] [] := by
  refine mk_contract [] Try.func51 (c := Try.f51.body.get!) (by kernel_rfl) k51 r51 (of_decide_eq_true rfl) fun _ => ?_
  obtain ⟨h1, h2, ⟨h3, h4⟩, h5⟩ := h
  unfold c51; simp
  refine callW_ms [.ro] ?_
  simp [entsR]
  refine callX_of (w101 w.1 w.2.1 (by omega) (by omega)) (by simp) ?_
  simp [entsO]
  refine callW_ms [.ro] ?_
  simp
  refine callX_of (w102 w.2.2.1 h3 h4) (by simp) ?_
  simp
  refine callW_ms [.ro] ?_
  simp
  refine callX_of (w103 w.2.2.2 (by omega)) (by simp) ?_
  simp

/-! ### sameness -/
theorem w198 (l : List (List ValP)) (hl : l.length ≤ 2^40) (hd : ∀ v ∈ l, v.length ≤ 2^40) : Contract Try.prog false 198 [.ro, .ro] [.sl false 1 (l.map cvT), .sl false 1 (l.map cvT)] [.b true] [] := by
  refine mk_contract [] Try.func198 (c := Try.f198.body.get!) (by kernel_rfl) k198 r198 (of_decide_eq_true rfl) fun _ => ?_
  unfold c198; simp
  refine twp_for l.length (fun j s => s.t 0 = .sl false 1 (l.map cvT) ∧ s.t 1 = .sl false 1 (l.map cvT) ∧ s.t 5 = .i .i64 j ∧ s.H = lk [(1, [])]) [] (by simp) ?_ ?_
  · simp
  · rintro j s hj ⟨q0, q1, q5, qH⟩
    rw [nf_of qH]
    simp [q0, q1, q5]
    intro hlt
    have hw : IntKind.i64.wrap (j + 1) = j + 1 := wrap_id (by omega) (by omega)
    obtain ⟨x, hx⟩ := get_some hlt
    simp [hx, hw, q0, q1, q5]
    refine callW_ms [.ro, .ro] ?_
    simp
    refine callX_of (w110 x (hd x (List.mem_of_getElem? hx))) (by simp) ?_
    simp [hw, q0, q1, q5]
    exact hlt
theorem w162 (t : TableP) (h : okT t) : Contract Try.prog false 162 [.ro, .ro] [tableR t, tableR t] [.b true] [] := by
  refine mk_contract [] Try.func162 (c := Try.f162.body.get!) (by kernel_rfl) k162 r162 (of_decide_eq_true rfl) fun _ => ?_
  obtain ⟨h1, h2, h3, h4⟩ := h
  unfold c162; simp
  refine callW_ms [.ro, .ro] ?_
  simp
  refine callX_of (w31 t.1 t.1 (by omega) (by omega)) (by simp) ?_
  simp
  refine callW_ms [.ro, .ro] ?_
  simp
  refine callX_of (w54 t.2.1 t.2.1 (by omega) (by omega)) (by simp) ?_
  simp
  refine callW_ms [.ro, .ro] ?_
  simp
  refine callX_of (w198 t.2.2 (by omega) (fun v hv => by have := h4 v hv; omega)) (by simp) ?_
  simp
theorem w109 (l : List TableP) (hl : l.length ≤ 2^36) (hd : ∀ t ∈ l, okT t) : Contract Try.prog false 109 [.ro, .ro] [.sl false 3 (l.map tbT), .sl false 3 (l.map tbT)] [.b true] [] := by
  refine mk_contract [] Try.func109 (c := Try.f109.body.get!) (by kernel_rfl) k109 r109 (of_decide_eq_true rfl) fun _ => ?_
  unfold c109; simp
  refine twp_for l.length (fun j s => s.t 0 = .sl false 3 (l.map tbT) ∧ s.t 1 = .sl false 3 (l.map tbT) ∧ s.t 5 = .i .i64 j ∧ s.H = lk [(1, [])]) [] (by simp) ?_ ?_
  · simp
  · rintro j s hj ⟨q0, q1, q5, qH⟩
    rw [nf_of qH]
    simp [q0, q1, q5]
    intro hlt
    have hw : IntKind.i64.wrap (j + 1) = j + 1 := wrap_id (by omega) (by omega)
    obtain ⟨x, hx⟩ := get_some hlt
    simp [hx, hw, q0, q1, q5]
    refine callW_ms [.ro, .ro] ?_
    simp
    refine callX_of (w162 x (hd x (List.mem_of_getElem? hx))) (by simp) ?_
    simp [hw, q0, q1, q5]
    exact hlt
theorem w55 (w : WorldP) (h : okW w) : Contract Try.prog false 55 [.ro, .ro] [worldR w.1 w.2.1 w.2.2.1 w.2.2.2, worldR w.1 w.2.1 w.2.2.1 w.2.2.2] [.b true] [] := by
  refine mk_contract [] Try.func55 (c := Try.f55.body.get!) (by kernel_rfl) k55 r55 (of_decide_eq_true rfl) fun _ => ?_
  obtain ⟨h1, h2, ⟨h3, h4⟩, h5⟩ := h
  unfold c55; simp
  refine callW_ms [.ro, .ro] ?_
  simp [entsR]
  refine callX_of (w108 w.1 w.2.1 w.1 w.2.1 (by omega) (by omega) (by omega) (by omega)) (by simp) ?_
  simp
  refine callW_ms [.ro, .ro] ?_
  simp
  refine callX_of (w109 w.2.2.1 h3 h4) (by simp) ?_
  simp
  refine callW_ms [.ro, .ro] ?_
  simp
  refine callX_of (w110 w.2.2.2 (by omega)) (by simp) ?_
  simp
end Go.Proofs.YtmedelmfkciblaaT

/- Cells and commands: sizes, copies, sameness; Spawns. -/
namespace Go.Proofs.YtmedelmfkciblaaT
set_option linter.unusedVariables false
set_option linter.unusedSimpArgs false
open Go

/- laws.szCellS -/
def c83 : TCode := (.seq (.ops [⟨(some 4), 6, .mv (.c (.i .i64 0)), none, []⟩])
  (.seq (.ops [⟨(some 5), 7, .mv (.t 1), none, []⟩, ⟨(some 6), 8, .mv (.t 0), none, []⟩, ⟨(some 7), 9, .len false (.t 6), none, []⟩, ⟨(some 8), 10, .bin .sub (.t 5) (.t 7), none, []⟩, ⟨(some 1), 3, .mv (.t 8), none, []⟩])
  (.seq (.seq (.ops [⟨(some 9), 11, .mv (.t 1), none, []⟩, ⟨(some 10), 12, .bin .lss (.t 9) (.c (.i .i64 0)), none, []⟩])
  (.cond (.t 10)
  (.seq (.ops [⟨(some 4), 6, .mv (.c (.i .i64 (-1))), none, []⟩])
  .ret)
  .skip))
  (.seq (.ops [⟨(some 11), 13, .mv (.t 1), none, []⟩, ⟨(some 4), 6, .mv (.t 11), none, []⟩])
  .ret))))
theorem k83 : compCode Try.prog Try.f83.ntmps Try.f83.body.get! = some c83 := by kernel_rfl
theorem r83 : resTmps Try.prog Try.f83.results.toList = some [.tmp 4] := by kernel_rfl
/- laws.szCmd -/
def c42 : TCode := (.seq (.ops [⟨(some 2), 4, .box 9 (.t 0), none, []⟩, ⟨(some 4), 6, .mv (.c (.i .i64 0)), none, []⟩])
  (.seq (.ops [⟨(some 5), 7, .faddr 8 1 (.t 2), none, []⟩, ⟨(some 6), 8, .load false 1 (.t 5), none, []⟩, ⟨(some 7), 9, .mv (.t 1), none, []⟩, ⟨(some 8), 10, .call 83 [((.t 6), 0), ((.t 7), 0)], none, []⟩, ⟨(some 1), 3, .mv (.t 8), none, []⟩])
  (.seq (.seq (.ops [⟨(some 9), 11, .mv (.t 1), none, []⟩, ⟨(some 10), 12, .bin .lss (.t 9) (.c (.i .i64 0)), none, []⟩])
  (.cond (.t 10)
  (.seq (.ops [⟨(some 4), 6, .mv (.c (.i .i64 (-1))), none, []⟩])
  .ret)
  .skip))
  (.seq (.ops [⟨(some 11), 13, .mv (.t 1), none, []⟩, ⟨(some 4), 6, .mv (.t 11), none, []⟩])
  .ret))))
theorem k42 : compCode Try.prog Try.f42.ntmps Try.f42.body.get! = some c42 := by kernel_rfl
theorem r42 : resTmps Try.prog Try.f42.results.toList = some [.tmp 4] := by kernel_rfl
/- laws.szCmdS -/
def c27 : TCode := (.seq (.ops [⟨(some 4), 6, .mv (.c (.i .i64 0)), none, []⟩])
  (.seq (.ops [⟨(some 6), 8, .mv (.t 1), none, []⟩, ⟨(some 7), 9, .mv (.t 0), none, []⟩, ⟨(some 8), 10, .len false (.t 7), none, []⟩, ⟨(some 9), 11, .bin .sub (.t 6) (.t 8), none, []⟩, ⟨(some 1), 3, .mv (.t 9), none, []⟩])
  (.seq (.seq (.ops [⟨(some 10), 12, .mv (.t 1), none, []⟩, ⟨(some 11), 13, .bin .lss (.t 10) (.c (.i .i64 0)), none, []⟩])
  (.cond (.t 11)
  (.seq (.ops [⟨(some 4), 6, .mv (.c (.i .i64 (-1))), none, []⟩])
  .ret)
  .skip))
  (.seq (.seq (.ops [⟨(some 5), 7, .mv (.c (.i .i64 0)), none, []⟩])
  (.block 0 (.loop (.seq (.seq (.ops [⟨(some 12), 14, .mv (.t 5), none, []⟩, ⟨(some 13), 15, .mv (.t 0), none, []⟩, ⟨(some 14), 16, .len false (.t 13), none, []⟩, ⟨(some 15), 17, .bin .lss (.t 12) (.t 14), none, []⟩])
  (.cond (.t 15)
  .skip
  (.exit 0)))
  (.seq (.block 1 (.seq (.ops [⟨(some 18), 20, .mv (.t 0), none, []⟩, ⟨(some 19), 21, .mv (.t 5), none, []⟩, ⟨(some 20), 22, .iaddr 9 (.t 18) (.t 19), none, []⟩, ⟨(some 21), 23, .load true 9 (.t 20), none, []⟩, ⟨(some 22), 24, .mv (.t 1), none, []⟩, ⟨(some 23), 25, .call 42 [((.t 21), 0), ((.t 22), 0)], none, []⟩, ⟨(some 1), 3, .mv (.t 23), none, []⟩])
  (.seq (.ops [⟨(some 24), 26, .mv (.t 1), none, []⟩, ⟨(some 25), 27, .bin .lss (.t 24) (.c (.i .i64 0)), none, []⟩])
  (.cond (.t 25)
  (.seq (.ops [⟨(some 4), 6, .mv (.c (.i .i64 (-1))), none, []⟩])
  .ret)
  .skip))))
  (.ops [⟨(some 16), 18, .mv (.t 5), none, []⟩, ⟨(some 17), 19, .bin .add (.t 16) (.c (.i .i64 1)), none, []⟩, ⟨(some 5), 7, .mv (.t 17), none, []⟩]))))))
  (.seq (.ops [⟨(some 26), 28, .mv (.t 1), none, []⟩, ⟨(some 4), 6, .mv (.t 26), none, []⟩])
  .ret)))))
theorem k27 : compCode Try.prog Try.f27.ntmps Try.f27.body.get! = some c27 := by kernel_rfl
theorem r27 : resTmps Try.prog Try.f27.results.toList = some [.tmp 4] := by kernel_rfl
/- laws.toCell -/
def c148 : TCode := (.seq (.ops [⟨(some 1), 3, .box 5 (.t 0), none, []⟩, ⟨(some 2), 4, .box 5 (.c (.ag [(.i .i64 0), (.i .i64 0), (.i .i64 0), (.f 0), (.f 0)])), none, []⟩])
  (.seq (.ops [⟨(some 3), 5, .box 5 (.c (.ag [(.i .i64 0), (.i .i64 0), (.i .i64 0), (.f 0), (.f 0)])), none, []⟩])
  (.seq (.ops [⟨(some 4), 6, .faddr 0 1 (.t 1), none, []⟩, ⟨(some 5), 7, .load false 1 (.t 4), none, []⟩, ⟨(some 6), 8, .faddr 0 1 (.t 3), none, []⟩, ⟨none, 1002003, .store 1 (.t 6) (.t 5), none, []⟩])
  (.seq (.ops [⟨(some 7), 9, .faddr 1 4 (.t 1), none, []⟩, ⟨(some 8), 10, .load true 4 (.t 7), none, []⟩, ⟨(some 9), 11, .call 89 [((.t 8), 0)], none, []⟩, ⟨(some 10), 12, .faddr 1 4 (.t 3), none, []⟩, ⟨none, 1003004, .store 4 (.t 10) (.t 9), none, []⟩])
  (.seq (.ops [⟨(some 11), 13, .load true 5 (.t 3), none, []⟩, ⟨none, 1004001, .store 5 (.t 2) (.t 11), none, []⟩])
  .ret)))))
theorem k148 : compCode Try.prog Try.f148.ntmps Try.f148.body.get! = some c148 := by kernel_rfl
theorem r148 : resTmps Try.prog Try.f148.results.toList = some [.cell 2 true 5] := by kernel_rfl
/- laws.toCellS -/
def c90 : TCode := (.seq (.ops [⟨(some 2), 4, .mv (.c (.sl true 5 [])), none, []⟩])
  (.seq (.ops [⟨(some 5), 7, .mv (.t 0), none, []⟩, ⟨(some 6), 8, .len false (.t 5), none, []⟩, ⟨(some 7), 9, .mkslice 5 40 [(.i .i64 0), (.i .i64 0), (.i .i64 0), (.f 0), (.f 0)] (.t 6) (.t 6), none, []⟩, ⟨(some 3), 5, .mv (.t 7), none, []⟩])
  (.seq (.seq (.ops [⟨(some 4), 6, .mv (.c (.i .i64 0)), none, []⟩])
  (.block 0 (.loop (.seq (.seq (.ops [⟨(some 8), 10, .mv (.t 4), none, []⟩, ⟨(some 9), 11, .mv (.t 0), none, []⟩, ⟨(some 10), 12, .len false (.t 9), none, []⟩, ⟨(some 11), 13, .bin .lss (.t 8) (.t 10), none, []⟩])
  (.cond (.t 11)
  .skip
  (.exit 0)))
  (.seq (.block 1 (.ops [⟨(some 14), 16, .mv (.t 3), none, []⟩, ⟨(some 15), 17, .mv (.t 4), none, []⟩, ⟨(some 16), 18, .mv (.t 0), none, []⟩, ⟨(some 17), 19, .mv (.t 4), none, []⟩, ⟨(some 18), 20, .iaddr 5 (.t 16) (.t 17), none, []⟩, ⟨(some 19), 21, .load true 5 (.t 18), none, []⟩, ⟨(some 20), 22, .call 148 [((.t 19), 0)], none, []⟩, ⟨(some 21), 23, .iaddr 5 (.t 14) (.t 15), none, []⟩, ⟨none, 1005008, .store 5 (.t 21) (.t 20), none, []⟩]))
  (.ops [⟨(some 12), 14, .mv (.t 4), none, []⟩, ⟨(some 13), 15, .bin .add (.t 12) (.c (.i .i64 1)), none, []⟩, ⟨(some 4), 6, .mv (.t 13), none, []⟩]))))))
  (.seq (.ops [⟨(some 22), 24, .mv (.t 3), none, []⟩, ⟨(some 2), 4, .mv (.t 22), none, []⟩])
  .ret))))
theorem k90 : compCode Try.prog Try.f90.ntmps Try.f90.body.get! = some c90 := by kernel_rfl
theorem r90 : resTmps Try.prog Try.f90.results.toList = some [.tmp 2] := by kernel_rfl
/- laws.toCmd -/
def c45 : TCode := (.seq (.ops [⟨(some 1), 3, .box 9 (.t 0), none, []⟩, ⟨(some 2), 4, .box 9 (.c (.ag [(.i .i64 0), (.i .i64 0), (.i .i64 0), (.i .i64 0), (.i .i64 0), (.i .i64 0), (.f 0), (.f 0), (.sl true 5 [])])), none, []⟩])
  (.seq (.ops [⟨(some 3), 5, .box 9 (.c (.ag [(.i .i64 0), (.i .i64 0), (.i .i64 0), (.i .i64 0), (.i .i64 0), (.i .i64 0), (.f 0), (.f 0), (.sl true 5 [])])), none, []⟩])
  (.seq (.ops [⟨(some 4), 6, .faddr 0 1 (.t 1), none, []⟩, ⟨(some 5), 7, .load false 1 (.t 4), none, []⟩, ⟨(some 6), 8, .faddr 0 1 (.t 3), none, []⟩, ⟨none, 1002003, .store 1 (.t 6) (.t 5), none, []⟩])
  (.seq (.ops [⟨(some 7), 9, .faddr 1 2 (.t 1), none, []⟩, ⟨(some 8), 10, .load true 2 (.t 7), none, []⟩, ⟨(some 9), 11, .call 60 [((.t 8), 0)], none, []⟩, ⟨(some 10), 12, .faddr 1 2 (.t 3), none, []⟩, ⟨none, 1003004, .store 2 (.t 10) (.t 9), none, []⟩])
  (.seq (.ops [⟨(some 11), 13, .faddr 3 1 (.t 1), none, []⟩, ⟨(some 12), 14, .load false 1 (.t 11), none, []⟩, ⟨(some 13), 15, .faddr 3 1 (.t 3), none, []⟩, ⟨none, 1004003, .store 1 (.t 13) (.t 12), none, []⟩])
  (.seq (.ops [⟨(some 14), 16, .faddr 4 4 (.t 1), none, []⟩, ⟨(some 15), 17, .load true 4 (.t 14), none, []⟩, ⟨(some 16), 18, .call 89 [((.t 15), 0)], none, []⟩, ⟨(some 17), 19, .faddr 4 4 (.t 3), none, []⟩, ⟨none, 1005004, .store 4 (.t 17) (.t 16), none, []⟩])
  (.seq (.ops [⟨(some 18), 20, .faddr 8 1 (.t 1), none, []⟩, ⟨(some 19), 21, .load false 1 (.t 18), none, []⟩, ⟨(some 20), 22, .call 90 [((.t 19), 0)], none, []⟩, ⟨(some 21), 23, .faddr 8 1 (.t 3), none, []⟩, ⟨none, 1006004, .store 1 (.t 21) (.t 20), none, []⟩])
  (.seq (.ops [⟨(some 22), 24, .load true 9 (.t 3), none, []⟩, ⟨none, 1007001, .store 9 (.t 2) (.t 22), none, []⟩])
  .ret))))))))
theorem k45 : compCode Try.prog Try.f45.ntmps Try.f45.body.get! = some c45 := by kernel_rfl
theorem r45 : resTmps Try.prog Try.f45.results.toList = some [.cell 2 true 9] := by kernel_rfl
/- laws.toCmdS -/
def c29 : TCode := (.seq (.ops [⟨(some 2), 4, .mv (.c (.sl true 9 [])), none, []⟩])
  (.seq (.ops [⟨(some 5), 7, .mv (.t 0), none, []⟩, ⟨(some 6), 8, .len false (.t 5), none, []⟩, ⟨(some 7), 9, .mkslice 9 88 [(.i .i64 0), (.i .i64 0), (.i .i64 0), (.i .i64 0), (.i .i64 0), (.i .i64 0), (.f 0), (.f 0), (.sl true 5 [])] (.t 6) (.t 6), none, []⟩, ⟨(some 3), 5, .mv (.t 7), none, []⟩])
  (.seq (.seq (.ops [⟨(some 4), 6, .mv (.c (.i .i64 0)), none, []⟩])
  (.block 0 (.loop (.seq (.seq (.ops [⟨(some 8), 10, .mv (.t 4), none, []⟩, ⟨(some 9), 11, .mv (.t 0), none, []⟩, ⟨(some 10), 12, .len false (.t 9), none, []⟩, ⟨(some 11), 13, .bin .lss (.t 8) (.t 10), none, []⟩])
  (.cond (.t 11)
  .skip
  (.exit 0)))
  (.seq (.block 1 (.ops [⟨(some 14), 16, .mv (.t 3), none, []⟩, ⟨(some 15), 17, .mv (.t 4), none, []⟩, ⟨(some 16), 18, .mv (.t 0), none, []⟩, ⟨(some 17), 19, .mv (.t 4), none, []⟩, ⟨(some 18), 20, .iaddr 9 (.t 16) (.t 17), none, []⟩, ⟨(some 19), 21, .load true 9 (.t 18), none, []⟩, ⟨(some 20), 22, .call 45 [((.t 19), 0)], none, []⟩, ⟨(some 21), 23, .iaddr 9 (.t 14) (.t 15), none, []⟩, ⟨none, 1005008, .store 9 (.t 21) (.t 20), none, []⟩]))
  (.ops [⟨(some 12), 14, .mv (.t 4), none, []⟩, ⟨(some 13), 15, .bin .add (.t 12) (.c (.i .i64 1)), none, []⟩, ⟨(some 4), 6, .mv (.t 13), none, []⟩]))))))
  (.seq (.ops [⟨(some 22), 24, .mv (.t 3), none, []⟩, ⟨(some 2), 4, .mv (.t 22), none, []⟩])
  .ret))))
theorem k29 : compCode Try.prog Try.f29.ntmps Try.f29.body.get! = some c29 := by kernel_rfl
theorem r29 : resTmps Try.prog Try.f29.results.toList = some [.tmp 2] := by kernel_rfl
/- laws.eqCell -/
def c157 : TCode := (.seq (.ops [⟨(some 2), 4, .box 5 (.t 0), none, []⟩, ⟨(some 3), 5, .box 5 (.t 1), none, []⟩, ⟨(some 4), 6, .mv (.c (.b false)), none, []⟩])
  (.seq (.seq (.ops [⟨(some 5), 7, .faddr 0 1 (.t 2), none, []⟩, ⟨(some 6), 8, .load false 1 (.t 5), none, []⟩, ⟨(some 7), 9, .faddr 0 1 (.t 3), none, []⟩, ⟨(some 8), 10, .load false 1 (.t 7), none, []⟩, ⟨(some 9), 11, .bin .neq (.t 6) (.t 8), none, []⟩])
  (.cond (.t 9)
  (.seq (.ops [⟨(some 4), 6, .mv (.c (.b false)), none, []⟩])
  .ret)
  .skip))
  (.seq (.seq (.ops [⟨(some 10), 12, .faddr 1 4 (.t 2), none, []⟩, ⟨(some 11), 13, .load true 4 (.t 10), none, []⟩, ⟨(some 12), 14, .faddr 1 4 (.t 3), none, []⟩, ⟨(some 13), 15, .load true 4 (.t 12), none, []⟩, ⟨(some 14), 16, .call 95 [((.t 11), 0), ((.t 13), 0)], none, []⟩, ⟨(some 15), 17, .un .not (.t 14), none, []⟩])
  (.cond (.t 15)
  (.seq (.ops [⟨(some 4), 6, .mv (.c (.b false)), none, []⟩])
  .ret)
  .skip))
  (.seq (.ops [⟨(some 4), 6, .mv (.c (.b true)), none, []⟩])
  .ret))))
theorem k157 : compCode Try.prog Try.f157.ntmps Try.f157.body.get! = some c157 := by kernel_rfl
theorem r157 : resTmps Try.prog Try.f157.results.toList = some [.tmp 4] := by kernel_rfl
/- laws.eqCellS -/
def c96 : TCode := (.seq (.ops [⟨(some 4), 6, .mv (.c (.b false)), none, []⟩])
  (.seq (.seq (.ops [⟨(some 6), 8, .mv (.t 0), none, []⟩, ⟨(some 7), 9, .len false (.t 6), none, []⟩, ⟨(some 8), 10, .mv (.t 1), none, []⟩, ⟨(some 9), 11, .len false (.t 8), none, []⟩, ⟨(some 10), 12, .bin .neq (.t 7) (.t 9), none, []⟩])
  (.cond (.t 10)
  (.seq (.ops [⟨(some 4), 6, .mv (.c (.b false)), none, []⟩])
  .ret)
  .skip))
  (.seq (.seq (.ops [⟨(some 5), 7, .mv (.c (.i .i64 0)), none, []⟩])
  (.block 0 (.loop (.seq (.seq (.ops [⟨(some 11), 13, .mv (.t 5), none, []⟩, ⟨(some 12), 14, .mv (.t 0), none, []⟩, ⟨(some 13), 15, .len false (.t 12), none, []⟩, ⟨(some 14), 16, .bin .lss (.t 11) (.t 13), none, []⟩])
  (.cond (.t 14)
  .skip
  (.exit 0)))
  (.seq (.block 1 (.seq (.draw [⟨(some 17), 19, .mv (.t 0), none, []⟩, ⟨(some 18), 20, .mv (.t 5), none, []⟩, ⟨(some 19), 21, .iaddr 5 (.t 17) (.t 18), none, []⟩, ⟨(some 20), 22, .load true 5 (.t 19), none, []⟩, ⟨(some 21), 23, .mv (.t 1), none, []⟩, ⟨(some 22), 24, .mv (.t 5), none, []⟩, ⟨(some 23), 25, .iaddr 5 (.t 21) (.t 22), none, []⟩, ⟨(some 24), 26, .load true 5 (.t 23), none, []⟩, ⟨(some 25), 27, .call 157 [((.t 20), 0), ((.t 24), 0)], none, []⟩, ⟨(some 26), 28, .un .not (.t 25), none, []⟩])
  (.cond (.t 26)
  (.seq (.ops [⟨(some 4), 6, .mv (.c (.b false)), none, []⟩])
  .ret)
  .skip)))
  (.ops [⟨(some 15), 17, .mv (.t 5), none, []⟩, ⟨(some 16), 18, .bin .add (.t 15) (.c (.i .i64 1)), none, []⟩, ⟨(some 5), 7, .mv (.t 16), none, []⟩]))))))
  (.seq (.ops [⟨(some 4), 6, .mv (.c (.b true)), none, []⟩])
  .ret))))
theorem k96 : compCode Try.prog Try.f96.ntmps Try.f96.body.get! = some c96 := by kernel_rfl
theorem r96 : resTmps Try.prog Try.f96.results.toList = some [.tmp 4] := by kernel_rfl
/- laws.eqCmd -/
def c48 : TCode := (.seq (.ops [⟨(some 2), 4, .box 9 (.t 0), none, []⟩, ⟨(some 3), 5, .box 9 (.t 1), none, []⟩, ⟨(some 4), 6, .mv (.c (.b false)), none, []⟩])
  (.seq (.seq (.ops [⟨(some 5), 7, .faddr 0 1 (.t 2), none, []⟩, ⟨(some 6), 8, .load false 1 (.t 5), none, []⟩, ⟨(some 7), 9, .faddr 0 1 (.t 3), none, []⟩, ⟨(some 8), 10, .load false 1 (.t 7), none, []⟩, ⟨(some 9), 11, .bin .neq (.t 6) (.t 8), none, []⟩])
  (.cond (.t 9)
  (.seq (.ops [⟨(some 4), 6, .mv (.c (.b false)), none, []⟩])
  .ret)
  .skip))
  (.seq (.seq (.ops [⟨(some 10), 12, .faddr 1 2 (.t 2), none, []⟩, ⟨(some 11), 13, .load true 2 (.t 10), none, []⟩, ⟨(some 12), 14, .faddr 1 2 (.t 3), none, []⟩, ⟨(some 13), 15, .load true 2 (.t 12), none, []⟩, ⟨(some 14), 16, .call 94 [((.t 11), 0), ((.t 13), 0)], none, []⟩, ⟨(some 15), 17, .un .not (.t 14), none, []⟩])
  (.cond (.t 15)
  (.seq (.ops [⟨(some 4), 6, .mv (.c (.b false)), none, []⟩])
  .ret)
  .skip))
  (.seq (.seq (.ops [⟨(some 16), 18, .faddr 3 1 (.t 2), none, []⟩, ⟨(some 17), 19, .load false 1 (.t 16), none, []⟩, ⟨(some 18), 20, .faddr 3 1 (.t 3), none, []⟩, ⟨(some 19), 21, .load false 1 (.t 18), none, []⟩, ⟨(some 20), 22, .bin .neq (.t 17) (.t 19), none, []⟩])
  (.cond (.t 20)
  (.seq (.ops [⟨(some 4), 6, .mv (.c (.b false)), none, []⟩])
  .ret)
  .skip))
  (.seq (.seq (.ops [⟨(some 21), 23, .faddr 4 4 (.t 2), none, []⟩, ⟨(some 22), 24, .load true 4 (.t 21), none, []⟩, ⟨(some 23), 25, .faddr 4 4 (.t 3), none, []⟩, ⟨(some 24), 26, .load true 4 (.t 23), none, []⟩, ⟨(some 25), 27, .call 95 [((.t 22), 0), ((.t 24), 0)], none, []⟩, ⟨(some 26), 28, .un .not (.t 25), none, []⟩])
  (.cond (.t 26)
  (.seq (.ops [⟨(some 4), 6, .mv (.c (.b false)), none, []⟩])
  .ret)
  .skip))
  (.seq (.seq (.ops [⟨(some 27), 29, .faddr 8 1 (.t 2), none, []⟩, ⟨(some 28), 30, .load false 1 (.t 27), none, []⟩, ⟨(some 29), 31, .faddr 8 1 (.t 3), none, []⟩, ⟨(some 30), 32, .load false 1 (.t 29), none, []⟩, ⟨(some 31), 33, .call 96 [((.t 28), 0), ((.t 30), 0)], none, []⟩, ⟨(some 32), 34, .un .not (.t 31), none, []⟩])
  (.cond (.t 32)
  (.seq (.ops [⟨(some 4), 6, .mv (.c (.b false)), none, []⟩])
  .ret)
  .skip))
  (.seq (.ops [⟨(some 4), 6, .mv (.c (.b true)), none, []⟩])
  .ret)))))))
theorem k48 : compCode Try.prog Try.f48.ntmps Try.f48.body.get! = some c48 := by kernel_rfl
theorem r48 : resTmps Try.prog Try.f48.results.toList = some [.tmp 4] := by kernel_rfl
/- laws.eqCmdS -/
def c32 : TCode := (.seq (.ops [⟨(some 4), 6, .mv (.c (.b false)), none, []⟩])
  (.seq (.seq (.ops [⟨(some 6), 8, .mv (.t 0), none, []⟩, ⟨(some 7), 9, .len false (.t 6), none, []⟩, ⟨(some 8), 10, .mv (.t 1), none, []⟩, ⟨(some 9), 11, .len false (.t 8), none, []⟩, ⟨(some 10), 12, .bin .neq (.t 7) (.t 9), none, []⟩])
  (.cond (.t 10)
  (.seq (.ops [⟨(some 4), 6, .mv (.c (.b false)), none, []⟩])
  .ret)
  .skip))
  (.seq (.seq (.ops [⟨(some 5), 7, .mv (.c (.i .i64 0)), none, []⟩])
  (.block 0 (.loop (.seq (.seq (.ops [⟨(some 11), 13, .mv (.t 5), none, []⟩, ⟨(some 12), 14, .mv (.t 0), none, []⟩, ⟨(some 13), 15, .len false (.t 12), none, []⟩, ⟨(some 14), 16, .bin .lss (.t 11) (.t 13), none, []⟩])
  (.cond (.t 14)
  .skip
  (.exit 0)))
  (.seq (.block 1 (.seq (.draw [⟨(some 17), 19, .mv (.t 0), none, []⟩, ⟨(some 18), 20, .mv (.t 5), none, []⟩, ⟨(some 19), 21, .iaddr 9 (.t 17) (.t 18), none, []⟩, ⟨(some 20), 22, .load true 9 (.t 19), none, []⟩, ⟨(some 21), 23, .mv (.t 1), none, []⟩, ⟨(some 22), 24, .mv (.t 5), none, []⟩, ⟨(some 23), 25, .iaddr 9 (.t 21) (.t 22), none, []⟩, ⟨(some 24), 26, .load true 9 (.t 23), none, []⟩, ⟨(some 25), 27, .call 48 [((.t 20), 0), ((.t 24), 0)], none, []⟩, ⟨(some 26), 28, .un .not (.t 25), none, []⟩])
  (.cond (.t 26)
  (.seq (.ops [⟨(some 4), 6, .mv (.c (.b false)), none, []⟩])
  .ret)
  .skip)))
  (.ops [⟨(some 15), 17, .mv (.t 5), none, []⟩, ⟨(some 16), 18, .bin .add (.t 15) (.c (.i .i64 1)), none, []⟩, ⟨(some 5), 7, .mv (.t 16), none, []⟩]))))))
  (.seq (.ops [⟨(some 4), 6, .mv (.c (.b true)), none, []⟩])
  .ret))))
theorem k32 : compCode Try.prog Try.f32.ntmps Try.f32.body.get! = some c32 := by kernel_rfl
theorem r32 : resTmps Try.prog Try.f32.results.toList = some [.tmp 4] := by kernel_rfl
/- spec.Spawns -/
def c39 : TCode := (.seq (.ops [⟨(some 2), 4, .mv (.c (.i .i64 0)), none, []⟩])
  (.seq (.ops [⟨(some 3), 5, .mv (.c (.i .i64 0)), none, []⟩])
  (.seq (.seq (.ops [⟨(some 4), 6, .mv (.c (.i .i64 0)), none, []⟩])
  (.block 0 (.loop (.seq (.seq (.ops [⟨(some 5), 7, .mv (.t 4), none, []⟩, ⟨(some 6), 8, .mv (.t 0), none, []⟩, ⟨(some 7), 9, .len false (.t 6), none, []⟩, ⟨(some 8), 10, .bin .lss (.t 5) (.t 7), none, []⟩])
  (.cond (.t 8)
  .skip
  (.exit 0)))
  (.seq (.block 1 (.seq (.ops [⟨(some 11), 13, .mv (.t 0), none, []⟩, ⟨(some 12), 14, .mv (.t 4), none, []⟩, ⟨(some 13), 15, .iaddr 9 (.t 11) (.t 12), none, []⟩, ⟨(some 14), 16, .faddr 0 1 (.t 13), none, []⟩, ⟨(some 15), 17, .load false 1 (.t 14), none, []⟩, ⟨(some 16), 18, .bin .eql (.t 15) (.c (.i .i64 1)), none, []⟩])
  (.cond (.t 16)
  (.ops [⟨(some 17), 19, .mv (.t 3), none, []⟩, ⟨(some 18), 20, .bin .add (.t 17) (.c (.i .i64 1)), none, []⟩, ⟨(some 3), 5, .mv (.t 18), none, []⟩])
  .skip)))
  (.ops [⟨(some 9), 11, .mv (.t 4), none, []⟩, ⟨(some 10), 12, .bin .add (.t 9) (.c (.i .i64 1)), none, []⟩, ⟨(some 4), 6, .mv (.t 10), none, []⟩]))))))
  (.seq (.ops [⟨(some 19), 21, .mv (.t 3), none, []⟩, ⟨(some 2), 4, .mv (.t 19), none, []⟩])
  .ret))))
theorem k39 : compCode Try.prog Try.f39.ntmps Try.f39.body.get! = some c39 := by kernel_rfl
theorem r39 : resTmps Try.prog Try.f39.results.toList = some [.tmp 2] := by kernel_rfl
/- impl.Spawns -/
def c38 : TCode := (.seq (.ops [⟨(some 2), 4, .mv (.c (.i .i64 0)), none, []⟩])
  (.seq (.ops [⟨(some 3), 5, .mv (.c (.i .i64 0)), none, []⟩])
  (.seq (.seq (.ops [⟨(some 6), 8, .mv (.t 0), none, []⟩, ⟨(some 7), 9, .len false (.t 6), none, []⟩, ⟨(some 8), 10, .mv (.c (.i .i64 0)), none, []⟩])
  (.block 0 (.loop (.seq (.ops [⟨(some 9), 11, .bin .lss (.t 8) (.t 7), none, []⟩])
  (.seq (.cond (.t 9)
  .skip
  (.exit 0))
  (.seq (.block 1 (.seq (.ops [⟨(some 10), 12, .iaddr 9 (.t 6) (.t 8), none, []⟩, ⟨(some 11), 13, .load true 9 (.t 10), none, []⟩, ⟨(some 5), 7, .box 9 (.c (.ag [(.i .i64 0), (.i .i64 0), (.i .i64 0), (.i .i64 0), (.i .i64 0), (.i .i64 0), (.f 0), (.f 0), (.sl true 5 [])])), none, []⟩, ⟨none, 1004003, .store 9 (.t 5) (.t 11), none, []⟩])
  (.seq (.ops [⟨(some 12), 14, .faddr 0 1 (.t 5), none, []⟩, ⟨(some 13), 15, .load false 1 (.t 12), none, []⟩, ⟨(some 14), 16, .bin .eql (.t 13) (.c (.i .i64 1)), none, []⟩])
  (.cond (.t 14)
  (.ops [⟨(some 15), 17, .mv (.t 3), none, []⟩, ⟨(some 16), 18, .bin .add (.t 15) (.c (.i .i64 1)), none, []⟩, ⟨(some 3), 5, .mv (.t 16), none, []⟩])
  .skip))))
  (.ops [⟨(some 17), 19, .bin .add (.t 8) (.c (.i .i64 1)), none, []⟩, ⟨(some 8), 10, .mv (.t 17), none, []⟩])))))))
  (.seq (.ops [⟨(some 18), 20, .mv (.t 3), none, []⟩, ⟨(some 2), 4, .mv (.t 18), none, []⟩])
  .ret))))
theorem k38 : compCode Try.prog Try.f38.ntmps Try.f38.body.get! = some c38 := by kernel_rfl
theorem r38 : resTmps Try.prog Try.f38.results.toList = some [.tmp 2] := by kernel_rfl
/- laws.FnExactSpawns -/
def c7 : TCode := (.seq (.ops [⟨(some 2), 4, .mv (.c (.b false)), none, []⟩])
  (.seq (.ops [⟨(some 3), 5, .mv (.c (.i .i64 1048576)), none, []⟩])
  (.seq (.ops [⟨(some 7), 9, .mv (.t 0), none, []⟩, ⟨(some 8), 10, .mv (.t 3), none, []⟩, ⟨(some 9), 11, .call 27 [((.t 7), 0), ((.t 8), 0)], none, []⟩, ⟨(some 3), 5, .mv (.t 9), none, []⟩])
  (.seq (.seq (.ops [⟨(some 10), 12, .mv (.t 3), none, []⟩, ⟨(some 11), 13, .bin .lss (.t 10) (.c (.i .i64 0)), none, []⟩])
  (.cond (.t 11)
  (.seq (.ops [⟨(some 2), 4, .mv (.c (.b true)), none, []⟩])
  .ret)
  .skip))
  (.seq (.ops [⟨(some 12), 14, .mv (.t 0), none, []⟩, ⟨(some 13), 15, .call 29 [((.t 12), 0)], none, []⟩, ⟨(some 14), 16, .call 39 [((.t 13), 0)], none, []⟩, ⟨(some 4), 6, .mv (.t 14), none, []⟩])
  (.seq (.ops [⟨(some 15), 17, .mv (.t 0), none, []⟩, ⟨(some 16), 18, .call 29 [((.t 15), 0)], none, []⟩, ⟨(some 5), 7, .mv (.t 16), none, []⟩])
  (.seq (.ops [⟨(some 17), 19, .mv (.t 5), none, []⟩, ⟨(some 18), 20, .call 38 [((.t 17), 0)], none, []⟩, ⟨(some 6), 8, .mv (.t 18), none, []⟩])
  (.seq (.seq (.ops [⟨(some 19), 21, .mv (.t 6), none, []⟩, ⟨(some 20), 22, .mv (.t 4), none, []⟩, ⟨(some 21), 23, .bin .neq (.t 19) (.t 20), none, []⟩])
  (.cond (.t 21)
  (.seq (.ops [⟨(some 2), 4, .mv (.c (.b false)), none, []⟩])
  .ret)
  .skip))
  (.seq (.seq (.ops [⟨(some 22), 24, .mv (.t 5), none, []⟩, ⟨(some 23), 25, .mv (.t 0), none, []⟩, ⟨(some 24), 26, .call 29 [((.t 23), 0)], none, []⟩, ⟨(some 25), 27, .call 32 [((.t 22), 0), ((.t 24), 0)], none, []⟩, ⟨(some 26), 28, .un .not (.t 25), none, []⟩])
  (.cond (.t 26)
  (.seq (.ops [⟨(some 2), 4, .mv (.c (.b false)), none, []⟩])
  .ret)
  .skip))
  (.seq (.ops [⟨(some 2), 4, .mv (.c (.b true)), none, []⟩])
  .ret))))))))))
theorem k7 : compCode Try.prog Try.f7.ntmps Try.f7.body.get! = some c7 := by kernel_rfl
theorem r7 : resTmps Try.prog Try.f7.results.toList = some [.tmp 2] := by kernel_rfl

abbrev CellP := Int × ValP
@[simp] def clT (x : Int × ValP) : List TV := .i .i64 x.1 :: vT x.2
@[simp] theorem fzL_clT (x : Int × ValP) : fzL (clT x) = clT x := rfl
@[simp] theorem fzLL_clT (l : List (Int × ValP)) : fzLL (l.map clT) = l.map clT := fzLL_map fzL_clT l
@[simp] theorem noROLL_clT (l : List (Int × ValP)) : noROLL (l.map clT) = true := noROLL_map (fun _ => rfl) l
@[simp] theorem noref_clT (l : List (Int × ValP)) : (l.map clT).all (·.all noref) = true := noref_map (fun _ => rfl) l
@[simp] theorem srcT_clT (H : Hp) (z : Nat) (l : List (Int × ValP)) : srcT H (.sl false z (l.map clT)) = some (z, l.map clT, H, []) := by simp only [srcT, noref_clT, if_true]
abbrev CmdP := Int × (Int × Int) × Int × ValP × List CellP
@[simp] def cmT (x : CmdP) : List TV := .i .i64 x.1 :: (eT x.2.1 ++ .i .i64 x.2.2.1 :: (vT x.2.2.2.1 ++ [.sl false 5 (x.2.2.2.2.map clT)]))
@[simp] def cmO (x : CmdP) : List TV := [.i .i64 x.1, .i .i64 x.2.1.1, .i .i64 x.2.1.2, .i .i64 x.2.2.1, .i .i64 x.2.2.2.1.1, .i .i64 x.2.2.2.1.2.1, .f x.2.2.2.1.2.2.1, .f x.2.2.2.1.2.2.2, .sl true 5 (x.2.2.2.2.map clT)]
@[simp] theorem fzL_cmT (x : CmdP) : fzL (cmT x) = cmT x := by simp
@[simp] theorem fzL_cmO (x : CmdP) : fzL (cmO x) = cmT x := by simp
@[simp] theorem fzLL_cmT (l : List CmdP) : fzLL (l.map cmT) = l.map cmT := fzLL_map fzL_cmT l
@[simp] theorem fzLL_cmO (l : List CmdP) : fzLL (l.map cmO) = l.map cmT := fzLL_mapR fzL_cmO l
@[simp] theorem noROLL_cmO (l : List CmdP) : noROLL (l.map cmO) = true := noROLL_map (fun _ => by simp [noROL, noRO]) l
@[simp] theorem noref_cmT (l : List CmdP) : (l.map cmT).all (·.all noref) = true := noref_map (fun _ => by simp) l
abbrev cellR (x : CellP) : TV := .ag (clT x)
abbrev cmdR (x : CmdP) : TV := .ag (cmT x)
abbrev cmdO (x : CmdP) : TV := .ag (cmO x)

theorem w83 (l : List CellP) (n : Int) (hl : l.length < 2^63) (hn : n < 2^62) (hn0 : 0 ≤ n) : Contract Try.prog false 83 [.ro, .ro] [.sl false 5 (l.map clT), .i .i64 n] [.i .i64 (szF n l.length)] [] := by
  refine mk_contract [] Try.func83 (c := Try.f83.body.get!) (by kernel_rfl) k83 r83 (of_decide_eq_true rfl) fun _ => ?_
  have hw : IntKind.i64.wrap (n - l.length) = n - l.length := wrap_id (by omega) (by omega)
  unfold c83; unfold szF; simp [hw]
  omega
def szCmF (x : CmdP) (n : Int) : Int := szF n x.2.2.2.2.length
theorem szCm_C : SzC szCmF (fun x => x.2.2.2.2.length) := szF_C _
theorem w42 (x : CmdP) (n : Int) (hl : x.2.2.2.2.length < 2^63) (hn : n < 2^62) (hn0 : 0 ≤ n) : Contract Try.prog false 42 [.ro, .ro] [cmdR x, .i .i64 n] [.i .i64 (szCmF x n)] [] := by
  refine mk_contract [] Try.func42 (c := Try.f42.body.get!) (by kernel_rfl) k42 r42 (of_decide_eq_true rfl) fun _ => ?_
  unfold c42; simp
  refine callW_ms [.ro, .ro] ?_
  simp
  refine callX_of (w83 x.2.2.2.2 n hl hn hn0) (by simp) ?_
  simp [szCmF]
  exact fun h => (szF_neg _ _ h).symm
theorem w27 (l : List CmdP) (n : Int) (hl : l.length < 2^63) (hd : ∀ x ∈ l, x.2.2.2.2.length < 2^63) (hn : n < 2^62) (hn0 : 0 ≤ n) : Contract Try.prog false 27 [.ro, .ro] [.sl false 9 (l.map cmT), .i .i64 n] [.i .i64 (szS szCmF l n)] [] := by
  refine mk_contract [] Try.func27 (c := Try.f27.body.get!) (by kernel_rfl) k27 r27 (of_decide_eq_true rfl) fun _ => ?_
  have hw : IntKind.i64.wrap (n - l.length) = n - l.length := wrap_id (by omega) (by omega)
  unfold c27; simp [hw]
  refine ⟨fun h => ?_, fun h => ?_⟩
  · simp [szS, szF, h]
  have e : szF n l.length = n - l.length := by unfold szF; rw [if_neg (by omega)]
  have e2 : szS szCmF l n = szA szCmF l (n - l.length) := by unfold szS; rw [e, if_neg (by omega)]
  rw [e2]
  refine twp_for l.length (fun j s => s.t 0 = .sl false 9 (l.map cmT) ∧ s.t 1 = .i .i64 (szA szCmF (l.take j) (n - l.length)) ∧ s.t 5 = .i .i64 j ∧ 0 ≤ szA szCmF (l.take j) (n - l.length) ∧ s.H = lk [(1, [])]) [] (by simp) ?_ ?_
  · simp; omega
  · rintro j s hj ⟨q0, q1, q5, h0, qH⟩
    rw [nf_of qH]
    simp [q0, q1, q5]
    refine ⟨fun hlt => ?_, fun hge => ?_⟩
    · have hw : IntKind.i64.wrap (j + 1) = j + 1 := wrap_id (by omega) (by omega)
      obtain ⟨x, hx⟩ := get_some hlt
      have hle := (szA_ok szCm_C.le (l.take j) _ h0 (by omega)).1
      have hs : szA szCmF (l.take (j + 1)) (n - l.length) = szCmF x (szA szCmF (l.take j) (n - l.length)) := by
        rw [take_snoc hx, szA_snoc, if_neg (by omega)]
      have hng := szCm_C.neg x (szA szCmF (l.take j) (n - l.length))
      have hng2 := szA_take szCmF l (n - l.length) (j + 1)
      rw [hs] at hng2
      generalize szA szCmF (l.take j) (n - l.length) = m at *
      simp [hx, hw, q0, q1, q5]
      refine callW_ms [.ro, .ro] ?_
      simp
      refine callX_of (w42 x m (hd x (List.mem_of_getElem? hx)) (by omega) h0) (by simp) ?_
      simp [hw, q0, q1, q5]
      generalize szCmF x m = m' at *
      refine ⟨fun h1 => (hng2 (hng h1)).symm, fun h1 => ⟨hlt, by rw [hs], by rw [hs]; omega⟩⟩
    · obtain rfl : j = l.length := by omega
      simp [q0, q1, q5]
theorem w148 (x : CellP) : Contract Try.prog false 148 [.ro] [cellR x] [cellR x] [] := by
  refine mk_contract [] Try.func148 (c := Try.f148.body.get!) (by kernel_rfl) k148 r148 (of_decide_eq_true rfl) fun _ => ?_
  unfold c148; simp
  refine callW_ms [.ro] ?_
  simp [valV]
  refine callX_of (w89 x.2) (by simp) ?_
  simp [valV]
theorem w90 (l : List CellP) (hl : l.length ≤ 2^40) : Contract Try.prog false 90 [.ro] [.sl false 5 (l.map clT)] [.sl true 5 (l.map clT)] [] := by
  refine mk_contract [] Try.func90 (c := Try.f90.body.get!) (by kernel_rfl) k90 r90 (of_decide_eq_true rfl) fun _ => ?_
  unfold c90; simp
  refine ⟨by omega, ?_⟩
  refine twp_for l.length (fun j s => s.t 0 = .sl false 5 (l.map clT) ∧ s.t 3 = .rf [(9, 0)] 0 l.length ∧ s.t 4 = .i .i64 j ∧ s.H = lk [(1, []), (9, [.sl true 5 ((l.map clT).take j ++ List.replicate (l.length - j) [.i .i64 0, .i .i64 0, .i .i64 0, .f 0, .f 0])])]) [] (by simp) ?_ ?_
  · simp
  · rintro j s hj ⟨q0, q3, q4, qH⟩
    rw [nf_of qH]
    simp [q0, q3, q4]
    refine ⟨fun hlt => ?_, fun hge => ?_⟩
    · have hw : IntKind.i64.wrap (j + 1) = j + 1 := wrap_id (by omega) (by omega)
      obtain ⟨x, hx⟩ := get_some hlt
      have hmin : min j l.length = j := by omega
      simp [hx, hw, q0, q3, q4]
      refine callW_ms [.ro] ?_
      simp
      refine callX_of (w148 x) (by simp) ?_
      simp [hw, q0, q3, q4, rep_at hlt, mapsnoc hx, hmin]
      omega
    · obtain rfl : j = l.length := by omega
      simp [q0, q3, q4]
theorem w45 (x : CmdP) (h : x.2.2.2.2.length ≤ 2^40) : Contract Try.prog false 45 [.ro] [cmdR x] [cmdO x] [] := by
  refine mk_contract [] Try.func45 (c := Try.f45.body.get!) (by kernel_rfl) k45 r45 (of_decide_eq_true rfl) fun _ => ?_
  unfold c45; simp
  refine callW_ms [.ro] ?_
  simp [entT]
  refine callX_of (w60 x.2.1.1 x.2.1.2) (by simp) ?_
  simp [entT]
  refine callW_ms [.ro] ?_
  simp [valV]
  refine callX_of (w89 x.2.2.2.1) (by simp) ?_
  simp [valV]
  refine callW_ms [.ro] ?_
  simp
  refine callX_of (w90 x.2.2.2.2 h) (by simp) ?_
  simp
theorem w29 (l : List CmdP) (hl : l.length ≤ 2^36) (hd : ∀ x ∈ l, x.2.2.2.2.length ≤ 2^40) : Contract Try.prog false 29 [.ro] [.sl false 9 (l.map cmT)] [.sl true 9 (l.map cmO)] [] := by
  refine mk_contract [] Try.func29 (c := Try.f29.body.get!) (by kernel_rfl) k29 r29 (of_decide_eq_true rfl) fun _ => ?_
  unfold c29; simp
  refine ⟨by omega, ?_⟩
  refine twp_for l.length (fun j s => s.t 0 = .sl false 9 (l.map cmT) ∧ s.t 3 = .rf [(9, 0)] 0 l.length ∧ s.t 4 = .i .i64 j ∧ s.H = lk [(1, []), (9, [.sl true 9 ((l.map cmO).take j ++ List.replicate (l.length - j) [.i .i64 0, .i .i64 0, .i .i64 0, .i .i64 0, .i .i64 0, .i .i64 0, .f 0, .f 0, .sl true 5 []])])]) [22] (by simp) ?_ ?_
  · simp
  · rintro j s hj ⟨q0, q3, q4, qH⟩
    rw [nf_of qH]
    simp [q0, q3, q4]
    refine ⟨fun hlt => ?_, fun hge => ?_⟩
    · have hw : IntKind.i64.wrap (j + 1) = j + 1 := wrap_id (by omega) (by omega)
      obtain ⟨x, hx⟩ := get_some hlt
      have hmin : min j l.length = j := by omega
      simp [hx, hw, q0, q3, q4]
      refine callW_ms [.ro] ?_
      simp
      refine callX_of (w45 x (hd x (List.mem_of_getElem? hx))) (by simp) ?_
      simp [hw, q0, q3, q4, rep_at hlt, mapsnoc hx, hmin]
      omega
    · obtain rfl : j = l.length := by omega
      simp [q0, q3, q4]
theorem w157 (x : CellP) : Contract Try.prog false 157 [.ro, .ro] [cellR x, cellR x] [.b true] [] := by
  refine mk_contract [] Try.func157 (c := Try.f157.body.get!) (by kernel_rfl) k157 r157 (of_decide_eq_true rfl) fun _ => ?_
  unfold c157; simp
  refine callW_ms [.ro, .ro] ?_
  simp
  refine callX_of (W95r x.2) (by simp [valV]) ?_
  simp
theorem w96 (a : List CellP) (ha : a.length ≤ 2^40) : Contract Try.prog false 96 [.ro, .ro] [.sl false 5 (a.map clT), .sl false 5 (a.map clT)] [.b true] [] := by
  refine mk_contract [] Try.func96 (c := Try.f96.body.get!) (by kernel_rfl) k96 r96 (of_decide_eq_true rfl) fun _ => ?_
  unfold c96; simp
  refine twp_for a.length (fun j s => s.t 0 = .sl false 5 (a.map clT) ∧ s.t 1 = .sl false 5 (a.map clT) ∧ s.t 5 = .i .i64 j ∧ s.H = lk [(1, [])]) [] (by simp) ?_ ?_
  · simp
  · rintro j s hj ⟨q0, q1, q5, qH⟩
    rw [nf_of qH]
    simp [q0, q1, q5]
    intro hlt
    have hw : IntKind.i64.wrap (j + 1) = j + 1 := wrap_id (by omega) (by omega)
    obtain ⟨x, hx⟩ := get_some hlt
    simp [hx, hw, q0, q1, q5]
    refine callW_ms [.ro, .ro] ?_
    simp
    refine callX_of (w157 x) (by simp) ?_
    simp [hw, q0, q1, q5]
    exact hlt
theorem w48 (x : CmdP) (h : x.2.2.2.2.length ≤ 2^40) : Contract Try.prog false 48 [.ro, .ro] [cmdR x, cmdR x] [.b true] [] := by
  refine mk_contract [] Try.func48 (c := Try.f48.body.get!) (by kernel_rfl) k48 r48 (of_decide_eq_true rfl) fun _ => ?_
  unfold c48; simp
  refine callW_ms [.ro, .ro] ?_
  simp [entT]
  refine callX_of (w94 x.2.1.1 x.2.1.2 x.2.1.1 x.2.1.2) (by simp) ?_
  simp
  refine callW_ms [.ro, .ro] ?_
  simp
  refine callX_of (W95r x.2.2.2.1) (by simp [valV]) ?_
  simp
  refine callW_ms [.ro, .ro] ?_
  simp
  refine callX_of (w96 x.2.2.2.2 h) (by simp) ?_
  simp
theorem w32 (a : List CmdP) (ha : a.length ≤ 2^40) (hd : ∀ x ∈ a, x.2.2.2.2.length ≤ 2^40) : Contract Try.prog false 32 [.ro, .ro] [.sl false 9 (a.map cmT), .sl false 9 (a.map cmT)] [.b true] [] := by
  refine mk_contract [] Try.func32 (c := Try.f32.body.get!) (by kernel_rfl) k32 r32 (of_decide_eq_true rfl) fun _ => ?_
  unfold c32; simp
  refine twp_for a.length (fun j s => s.t 0 = .sl false 9 (a.map cmT) ∧ s.t 1 = .sl false 9 (a.map cmT) ∧ s.t 5 = .i .i64 j ∧ s.H = lk [(1, [])]) [] (by simp) ?_ ?_
  · simp
  · rintro j s hj ⟨q0, q1, q5, qH⟩
    rw [nf_of qH]
    simp [q0, q1, q5]
    intro hlt
    have hw : IntKind.i64.wrap (j + 1) = j + 1 := wrap_id (by omega) (by omega)
    obtain ⟨x, hx⟩ := get_some hlt
    simp [hx, hw, q0, q1, q5]
    refine callW_ms [.ro, .ro] ?_
    simp
    refine callX_of (w48 x (hd x (List.mem_of_getElem? hx))) (by simp) ?_
    simp [hw, q0, q1, q5]
    exact hlt
theorem szCms_ok {l : List CmdP} {n : Int} (h0 : 0 ≤ n) (hn : n ≤ 2^36) (h : ¬ szS szCmF l n < 0) : l.length ≤ 2^36 ∧ (∀ x ∈ l, x.2.2.2.2.length ≤ 2^36) ∧ (l.length + sumN (fun x : CmdP => x.2.2.2.2.length) l : Nat) ≤ n := by
  have e := (szS_C szCm_C).eq l n h0 (by omega)
  refine ⟨by omega, fun x hx => ?_, by omega⟩
  have h1 : x.2.2.2.2.length ≤ sumN (fun x : CmdP => x.2.2.2.2.length) l := sumN_mem (c := fun x : CmdP => x.2.2.2.2.length) hx
  omega

/-! ### Spawns -/
def spwN (l : List CmdP) : Nat := (l.filter fun x => decide (x.1 = 1)).length
theorem spwN_at {l : List CmdP} {x : CmdP} {j : Nat} (h : l[j]? = some x) : spwN (l.take (j + 1)) = spwN (l.take j) + (if x.1 = 1 then 1 else 0) := by
  rw [take_snoc h]; unfold spwN; rw [List.filter_append, List.length_append]
  split <;> rename_i hx <;> simp [hx]
theorem spwN_le (l : List CmdP) : spwN l ≤ l.length := List.length_filter_le _ _
theorem w39 (l : List CmdP) (hl : l.length ≤ 2^40) : Contract Try.prog false 39 [.ro] [.sl false 9 (l.map cmT)] [.i .i64 (spwN l)] [] := by
  refine mk_contract [] Try.func39 (c := Try.f39.body.get!) (by kernel_rfl) k39 r39 (of_decide_eq_true rfl) fun _ => ?_
  unfold c39; simp
  refine twp_for l.length (fun j s => s.t 0 = .sl false 9 (l.map cmT) ∧ s.t 3 = .i .i64 (spwN (l.take j)) ∧ s.t 4 = .i .i64 j ∧ s.H = lk [(1, [])]) [] (by simp) ?_ ?_
  · simp [spwN]
  · rintro j s hj ⟨q0, q3, q4, qH⟩
    rw [nf_of qH]
    simp [q0, q3, q4]
    refine ⟨fun hlt => ?_, fun hge => ?_⟩
    · have hw : IntKind.i64.wrap (j + 1) = j + 1 := wrap_id (by omega) (by omega)
      obtain ⟨x, hx⟩ := get_some hlt
      have hle := spwN_le (l.take j)
      rw [List.length_take] at hle
      have hw1 : IntKind.i64.wrap ((spwN (l.take j) : Int) + 1) = spwN (l.take j) + 1 := wrap_id (by omega) (by omega)
      by_cases h1 : x.1 = 1
      · have e := spwN_at hx
        rw [if_pos h1] at e
        simp [hx, hw, hw1, h1, q0, q3, q4, e]
        exact hlt
      · have e := spwN_at hx
        rw [if_neg h1] at e
        simp [hx, hw, hw1, h1, q0, q3, q4, e]
        exact hlt
    · obtain rfl : j = l.length := by omega
      simp [q0, q3, q4]
theorem w38 (l : List CmdP) (hl : l.length ≤ 2^40) : Contract Try.prog false 38 [.ro] [.sl false 9 (l.map cmT)] [.i .i64 (spwN l)] [] := by
  refine mk_contract [] Try.func38 (c := Try.f38.body.get!) (by kernel_rfl) k38 r38 (of_decide_eq_true rfl) fun _ => ?_
  unfold c38; simp
  refine twp_for l.length (fun j s => s.t 3 = .i .i64 (spwN (l.take j)) ∧ s.t 6 = .sl false 9 (l.map cmT) ∧ s.t 7 = .i .i64 l.length ∧ s.t 8 = .i .i64 j ∧ s.H = lk [(1, [])]) [7] (by simp) ?_ ?_
  · simp [spwN]
  · rintro j s hj ⟨q3, q6, q7, q8, qH⟩
    rw [nf_of qH]
    simp [q3, q6, q7, q8]
    refine ⟨fun hlt => ?_, fun hge => ?_⟩
    · have hw : IntKind.i64.wrap (j + 1) = j + 1 := wrap_id (by omega) (by omega)
      obtain ⟨x, hx⟩ := get_some hlt
      have hle := spwN_le (l.take j)
      rw [List.length_take] at hle
      have hw1 : IntKind.i64.wrap ((spwN (l.take j) : Int) + 1) = spwN (l.take j) + 1 := wrap_id (by omega) (by omega)
      by_cases h1 : x.1 = 1
      · have e := spwN_at hx
        rw [if_pos h1] at e
        simp [hx, hw, hw1, h1, q3, q6, q7, q8, e]
        exact hlt
      · have e := spwN_at hx
        rw [if_neg h1] at e
        simp [hx, hw, hw1, h1, q3, q6, q7, q8, e]
        exact hlt
    · obtain rfl : j = l.length := by omega
      simp [q3, q6, q7, q8]
theorem w7 (l : List CmdP) (hl : l.length < 2^63) (hd : ∀ x ∈ l, x.2.2.2.2.length < 2^63) : Contract Try.prog false 7 [.ro] [.sl false 9 (l.map cmT)] [.b true] [] := by
  refine mk_contract [] Try.func7 (c := Try.f7.body.get!) (by kernel_rfl) k7 r7 (of_decide_eq_true rfl) fun _ => ?_
  unfold c7; simp
  refine callW_ms [.ro, .ro] ?_
  simp
  refine callX_of (w27 l _ hl hd (by omega) (by omega)) (by simp) ?_
  simp
  intro h
  obtain ⟨h1, h2, h3⟩ := szCms_ok (by omega) (by omega) (by omega : ¬ szS szCmF l 1048576 < 0)
  have h2' : ∀ x ∈ l, x.2.2.2.2.length ≤ 2^40 := fun x hx => by have := h2 x hx; omega
  refine callW_ms [.ro] ?_
  simp
  refine callX_of (w29 l h1 h2') (by simp) ?_
  simp
  refine callW_ms [.ro] ?_
  simp
  refine callX_of (w39 l (by omega)) (by simp) ?_
  simp
  refine callW_ms [.ro] ?_
  simp
  refine callX_of (w29 l h1 h2') (by simp) ?_
  simp
  refine callW_ms [.ro] ?_
  simp
  refine callX_of (w38 l (by omega)) (by simp) ?_
  simp
  refine callW_ms [.ro] ?_
  simp
  refine callX_of (w29 l h1 h2') (by simp) ?_
  simp
  refine callW_ms [.ro, .ro] ?_
  simp
  refine callX_of (w32 l (by omega) h2') (by simp) ?_
  simp
end Go.Proofs.YtmedelmfkciblaaT

/- Marks on worlds, and what is held of them. -/
namespace Go.Proofs.YtmedelmfkciblaaT
set_option linter.unusedVariables false
set_option linter.unusedSimpArgs false
open Go

/- laws.markValSS -/
def c163 : TCode := (.seq (.ops [⟨(some 4), 6, .mv (.c (.i .i64 0)), none, []⟩])
  (.seq (.seq (.ops [⟨(some 5), 7, .mv (.c (.i .i64 0)), none, []⟩])
  (.block 0 (.loop (.seq (.seq (.ops [⟨(some 6), 8, .mv (.t 5), none, []⟩, ⟨(some 7), 9, .mv (.t 0), none, []⟩, ⟨(some 8), 10, .len false (.t 7), none, []⟩, ⟨(some 9), 11, .bin .lss (.t 6) (.t 8), none, []⟩])
  (.cond (.t 9)
  .skip
  (.exit 0)))
  (.seq (.block 1 (.ops [⟨(some 12), 14, .mv (.t 0), none, []⟩, ⟨(some 13), 15, .mv (.t 5), none, []⟩, ⟨(some 14), 16, .iaddr 1 (.t 12) (.t 13), none, []⟩, ⟨(some 15), 17, .load false 1 (.t 14), none, []⟩, ⟨(some 16), 18, .mv (.t 1), none, []⟩, ⟨(some 17), 19, .call 113 [((.t 15), 0), ((.t 16), 0)], none, []⟩, ⟨(some 1), 3, .mv (.t 17), none, []⟩]))
  (.ops [⟨(some 10), 12, .mv (.t 5), none, []⟩, ⟨(some 11), 13, .bin .add (.t 10) (.c (.i .i64 1)), none, []⟩, ⟨(some 5), 7, .mv (.t 11), none, []⟩]))))))
  (.seq (.ops [⟨(some 18), 20, .mv (.t 1), none, []⟩, ⟨(some 4), 6, .mv (.t 18), none, []⟩])
  .ret)))
theorem k163 : compCode Try.prog Try.f163.ntmps Try.f163.body.get! = some c163 := by kernel_rfl
theorem r163 : resTmps Try.prog Try.f163.results.toList = some [.tmp 4] := by kernel_rfl
/- laws.heldValSS -/
def c168 : TCode := (.seq (.ops [⟨(some 4), 6, .mv (.c (.i .i64 0)), none, []⟩])
  (.seq (.seq (.ops [⟨(some 5), 7, .mv (.c (.i .i64 0)), none, []⟩])
  (.block 0 (.loop (.seq (.seq (.ops [⟨(some 6), 8, .mv (.t 5), none, []⟩, ⟨(some 7), 9, .mv (.t 0), none, []⟩, ⟨(some 8), 10, .len false (.t 7), none, []⟩, ⟨(some 9), 11, .bin .lss (.t 6) (.t 8), none, []⟩])
  (.cond (.t 9)
  .skip
  (.exit 0)))
  (.seq (.block 1 (.seq (.ops [⟨(some 12), 14, .mv (.t 0), none, []⟩, ⟨(some 13), 15, .mv (.t 5), none, []⟩, ⟨(some 14), 16, .iaddr 1 (.t 12) (.t 13), none, []⟩, ⟨(some 15), 17, .load false 1 (.t 14), none, []⟩, ⟨(some 16), 18, .mv (.t 1), none, []⟩, ⟨(some 17), 19, .call 129 [((.t 15), 0), ((.t 16), 0)], none, []⟩, ⟨(some 1), 3, .mv (.t 17), none, []⟩])
  (.seq (.ops [⟨(some 18), 20, .mv (.t 1), none, []⟩, ⟨(some 19), 21, .bin .lss (.t 18) (.c (.i .i64 0)), none, []⟩])
  (.cond (.t 19)
  (.seq (.ops [⟨(some 4), 6, .mv (.c (.i .i64 (-1))), none, []⟩])
  .ret)
  .skip))))
  (.ops [⟨(some 10), 12, .mv (.t 5), none, []⟩, ⟨(some 11), 13, .bin .add (.t 10) (.c (.i .i64 1)), none, []⟩, ⟨(some 5), 7, .mv (.t 11), none, []⟩]))))))
  (.seq (.ops [⟨(some 20), 22, .mv (.t 1), none, []⟩, ⟨(some 4), 6, .mv (.t 20), none, []⟩])
  .ret)))
theorem k168 : compCode Try.prog Try.f168.ntmps Try.f168.body.get! = some c168 := by kernel_rfl
theorem r168 : resTmps Try.prog Try.f168.results.toList = some [.tmp 4] := by kernel_rfl
/- laws.markTableS -/
def c112 : TCode := (.seq (.ops [⟨(some 4), 6, .mv (.c (.i .i64 0)), none, []⟩])
  (.seq (.seq (.ops [⟨(some 5), 7, .mv (.c (.i .i64 0)), none, []⟩])
  (.block 0 (.loop (.seq (.seq (.ops [⟨(some 6), 8, .mv (.t 5), none, []⟩, ⟨(some 7), 9, .mv (.t 0), none, []⟩, ⟨(some 8), 10, .len false (.t 7), none, []⟩, ⟨(some 9), 11, .bin .lss (.t 6) (.t 8), none, []⟩])
  (.cond (.t 9)
  .skip
  (.exit 0)))
  (.seq (.block 1 (.seq (.ops [⟨(some 12), 14, .mv (.t 0), none, []⟩, ⟨(some 13), 15, .mv (.t 5), none, []⟩, ⟨(some 14), 16, .iaddr 3 (.t 12) (.t 13), none, []⟩, ⟨(some 15), 17, .faddr 0 1 (.t 14), none, []⟩, ⟨(some 16), 18, .load false 1 (.t 15), none, []⟩, ⟨(some 17), 19, .mv (.t 1), none, []⟩, ⟨(some 18), 20, .call 34 [((.t 16), 0), ((.t 17), 0)], none, []⟩, ⟨(some 1), 3, .mv (.t 18), none, []⟩])
  (.seq (.ops [⟨(some 19), 21, .mv (.t 0), none, []⟩, ⟨(some 20), 22, .mv (.t 5), none, []⟩, ⟨(some 21), 23, .iaddr 3 (.t 19) (.t 20), none, []⟩, ⟨(some 22), 24, .faddr 1 1 (.t 21), none, []⟩, ⟨(some 23), 25, .load false 1 (.t 22), none, []⟩, ⟨(some 24), 26, .mv (.t 1), none, []⟩, ⟨(some 25), 27, .call 57 [((.t 23), 0), ((.t 24), 0)], none, []⟩, ⟨(some 1), 3, .mv (.t 25), none, []⟩])
  (.ops [⟨(some 26), 28, .mv (.t 0), none, []⟩, ⟨(some 27), 29, .mv (.t 5), none, []⟩, ⟨(some 28), 30, .iaddr 3 (.t 26) (.t 27), none, []⟩, ⟨(some 29), 31, .faddr 2 1 (.t 28), none, []⟩, ⟨(some 30), 32, .load false 1 (.t 29), none, []⟩, ⟨(some 31), 33, .mv (.t 1), none, []⟩, ⟨(some 32), 34, .call 163 [((.t 30), 0), ((.t 31), 0)], none, []⟩, ⟨(some 1), 3, .mv (.t 32), none, []⟩]))))
  (.ops [⟨(some 10), 12, .mv (.t 5), none, []⟩, ⟨(some 11), 13, .bin .add (.t 10) (.c (.i .i64 1)), none, []⟩, ⟨(some 5), 7, .mv (.t 11), none, []⟩]))))))
  (.seq (.ops [⟨(some 33), 35, .mv (.t 1), none, []⟩, ⟨(some 4), 6, .mv (.t 33), none, []⟩])
  .ret)))
theorem k112 : compCode Try.prog Try.f112.ntmps Try.f112.body.get! = some c112 := by kernel_rfl
theorem r112 : resTmps Try.prog Try.f112.results.toList = some [.tmp 4] := by kernel_rfl
/- laws.heldTableS -/
def c128 : TCode := (.seq (.ops [⟨(some 4), 6, .mv (.c (.i .i64 0)), none, []⟩])
  (.seq (.seq (.ops [⟨(some 5), 7, .mv (.c (.i .i64 0)), none, []⟩])
  (.block 0 (.loop (.seq (.seq (.ops [⟨(some 6), 8, .mv (.t 5), none, []⟩, ⟨(some 7), 9, .mv (.t 0), none, []⟩, ⟨(some 8), 10, .len false (.t 7), none, []⟩, ⟨(some 9), 11, .bin .lss (.t 6) (.t 8), none, []⟩])
  (.cond (.t 9)
  .skip
  (.exit 0)))
  (.seq (.block 1 (.seq (.ops [⟨(some 12), 14, .mv (.t 0), none, []⟩, ⟨(some 13), 15, .mv (.t 5), none, []⟩, ⟨(some 14), 16, .iaddr 3 (.t 12) (.t 13), none, []⟩, ⟨(some 15), 17, .faddr 0 1 (.t 14), none, []⟩, ⟨(some 16), 18, .load false 1 (.t 15), none, []⟩, ⟨(some 17), 19, .mv (.t 1), none, []⟩, ⟨(some 18), 20, .call 35 [((.t 16), 0), ((.t 17), 0)], none, []⟩, ⟨(some 1), 3, .mv (.t 18), none, []⟩])
  (.seq (.seq (.ops [⟨(some 19), 21, .mv (.t 1), none, []⟩, ⟨(some 20), 22, .bin .lss (.t 19) (.c (.i .i64 0)), none, []⟩])
  (.cond (.t 20)
  (.seq (.ops [⟨(some 4), 6, .mv (.c (.i .i64 (-1))), none, []⟩])
  .ret)
  .skip))
  (.seq (.ops [⟨(some 21), 23, .mv (.t 0), none, []⟩, ⟨(some 22), 24, .mv (.t 5), none, []⟩, ⟨(some 23), 25, .iaddr 3 (.t 21) (.t 22), none, []⟩, ⟨(some 24), 26, .faddr 1 1 (.t 23), none, []⟩, ⟨(some 25), 27, .load false 1 (.t 24), none, []⟩, ⟨(some 26), 28, .mv (.t 1), none, []⟩, ⟨(some 27), 29, .call 58 [((.t 25), 0), ((.t 26), 0)], none, []⟩, ⟨(some 1), 3, .mv (.t 27), none, []⟩])
  (.seq (.seq (.ops [⟨(some 28), 30, .mv (.t 1), none, []⟩, ⟨(some 29), 31, .bin .lss (.t 28) (.c (.i .i64 0)), none, []⟩])
  (.cond (.t 29)
  (.seq (.ops [⟨(some 4), 6, .mv (.c (.i .i64 (-1))), none, []⟩])
  .ret)
  .skip))
  (.seq (.ops [⟨(some 30), 32, .mv (.t 0), none, []⟩, ⟨(some 31), 33, .mv (.t 5), none, []⟩, ⟨(some 32), 34, .iaddr 3 (.t 30) (.t 31), none, []⟩, ⟨(some 33), 35, .faddr 2 1 (.t 32), none, []⟩, ⟨(some 34), 36, .load false 1 (.t 33), none, []⟩, ⟨(some 35), 37, .mv (.t 1), none, []⟩, ⟨(some 36), 38, .call 168 [((.t 34), 0), ((.t 35), 0)], none, []⟩, ⟨(some 1), 3, .mv (.t 36), none, []⟩])
  (.seq (.ops [⟨(some 37), 39, .mv (.t 1), none, []⟩, ⟨(some 38), 40, .bin .lss (.t 37) (.c (.i .i64 0)), none, []⟩])
  (.cond (.t 38)
  (.seq (.ops [⟨(some 4), 6, .mv (.c (.i .i64 (-1))), none, []⟩])
  .ret)
  .skip))))))))
  (.ops [⟨(some 10), 12, .mv (.t 5), none, []⟩, ⟨(some 11), 13, .bin .add (.t 10) (.c (.i .i64 1)), none, []⟩, ⟨(some 5), 7, .mv (.t 11), none, []⟩]))))))
  (.seq (.ops [⟨(some 39), 41, .mv (.t 1), none, []⟩, ⟨(some 4), 6, .mv (.t 39), none, []⟩])
  .ret)))
theorem k128 : compCode Try.prog Try.f128.ntmps Try.f128.body.get! = some c128 := by kernel_rfl
theorem r128 : resTmps Try.prog Try.f128.results.toList = some [.tmp 4] := by kernel_rfl
/- laws.markWorld -/
def c56 : TCode := (.seq (.ops [⟨(some 2), 4, .box 4 (.t 0), none, []⟩, ⟨(some 4), 6, .mv (.c (.i .i64 0)), none, []⟩])
  (.seq (.ops [⟨(some 5), 7, .faddr 0 2 (.t 2), none, []⟩, ⟨(some 6), 8, .load true 2 (.t 5), none, []⟩, ⟨(some 7), 9, .mv (.t 1), none, []⟩, ⟨(some 8), 10, .call 111 [((.t 6), 0), ((.t 7), 0)], none, []⟩, ⟨(some 1), 3, .mv (.t 8), none, []⟩])
  (.seq (.ops [⟨(some 9), 11, .faddr 2 1 (.t 2), none, []⟩, ⟨(some 10), 12, .load false 1 (.t 9), none, []⟩, ⟨(some 11), 13, .mv (.t 1), none, []⟩, ⟨(some 12), 14, .call 112 [((.t 10), 0), ((.t 11), 0)], none, []⟩, ⟨(some 1), 3, .mv (.t 12), none, []⟩])
  (.seq (.ops [⟨(some 13), 15, .faddr 3 1 (.t 2), none, []⟩, ⟨(some 14), 16, .load false 1 (.t 13), none, []⟩, ⟨(some 15), 17, .mv (.t 1), none, []⟩, ⟨(some 16), 18, .call 113 [((.t 14), 0), ((.t 15), 0)], none, []⟩, ⟨(some 1), 3, .mv (.t 16), none, []⟩])
  (.seq (.ops [⟨(some 17), 19, .mv (.t 1), none, []⟩, ⟨(some 4), 6, .mv (.t 17), none, []⟩])
  .ret)))))
theorem k56 : compCode Try.prog Try.f56.ntmps Try.f56.body.get! = some c56 := by kernel_rfl
theorem r56 : resTmps Try.prog Try.f56.results.toList = some [.tmp 4] := by kernel_rfl
/- laws.heldWorld -/
def c67 : TCode := (.seq (.ops [⟨(some 2), 4, .box 4 (.t 0), none, []⟩, ⟨(some 4), 6, .mv (.c (.i .i64 0)), none, []⟩])
  (.seq (.ops [⟨(some 5), 7, .faddr 0 2 (.t 2), none, []⟩, ⟨(some 6), 8, .load true 2 (.t 5), none, []⟩, ⟨(some 7), 9, .mv (.t 1), none, []⟩, ⟨(some 8), 10, .call 127 [((.t 6), 0), ((.t 7), 0)], none, []⟩, ⟨(some 1), 3, .mv (.t 8), none, []⟩])
  (.seq (.seq (.ops [⟨(some 9), 11, .mv (.t 1), none, []⟩, ⟨(some 10), 12, .bin .lss (.t 9) (.c (.i .i64 0)), none, []⟩])
  (.cond (.t 10)
  (.seq (.ops [⟨(some 4), 6, .mv (.c (.i .i64 (-1))), none, []⟩])
  .ret)
  .skip))
  (.seq (.ops [⟨(some 11), 13, .faddr 2 1 (.t 2), none, []⟩, ⟨(some 12), 14, .load false 1 (.t 11), none, []⟩, ⟨(some 13), 15, .mv (.t 1), none, []⟩, ⟨(some 14), 16, .call 128 [((.t 12), 0), ((.t 13), 0)], none, []⟩, ⟨(some 1), 3, .mv (.t 14), none, []⟩])
  (.seq (.seq (.ops [⟨(some 15), 17, .mv (.t 1), none, []⟩, ⟨(some 16), 18, .bin .lss (.t 15) (.c (.i .i64 0)), none, []⟩])
  (.cond (.t 16)
  (.seq (.ops [⟨(some 4), 6, .mv (.c (.i .i64 (-1))), none, []⟩])
  .ret)
  .skip))
  (.seq (.ops [⟨(some 17), 19, .faddr 3 1 (.t 2), none, []⟩, ⟨(some 18), 20, .load false 1 (.t 17), none, []⟩, ⟨(some 19), 21, .mv (.t 1), none, []⟩, ⟨(some 20), 22, .call 129 [((.t 18), 0), ((.t 19), 0)], none, []⟩, ⟨(some 1), 3, .mv (.t 20), none, []⟩])
  (.seq (.seq (.ops [⟨(some 21), 23, .mv (.t 1), none, []⟩, ⟨(some 22), 24, .bin .lss (.t 21) (.c (.i .i64 0)), none, []⟩])
  (.cond (.t 22)
  (.seq (.ops [⟨(some 4), 6, .mv (.c (.i .i64 (-1))), none, []⟩])
  .ret)
  .skip))
  (.seq (.ops [⟨(some 23), 25, .mv (.t 1), none, []⟩, ⟨(some 4), 6, .mv (.t 23), none, []⟩])
  .ret))))))))
theorem k67 : compCode Try.prog Try.f67.ntmps Try.f67.body.get! = some c67 := by kernel_rfl
theorem r67 : resTmps Try.prog Try.f67.results.toList = some [.tmp 4] := by kernel_rfl

/-! ### rows that are marked, one behind the other -/
def mkR {α β : Type} (f : Int → α → β) (n : α → Nat) : Int → List α → List β
  | _, [] => []
  | k, x :: l => f k x :: mkR f n (k + n x) l
section
variable {α β : Type} {f : Int → α → β} {n : α → Nat}
@[simp] theorem mkR_len : ∀ (k : Int) (l : List α), (mkR f n k l).length = l.length
  | _, [] => rfl
  | k, x :: l => by simp [mkR, mkR_len _ l]
theorem mkR_snoc (x : α) : ∀ (k : Int) (l : List α), mkR f n k (l ++ [x]) = mkR f n k l ++ [f (k + sumN n l) x]
  | k, [] => by simp [mkR, sumN]
  | k, y :: l => by simp [mkR, mkR_snoc x _ l, sumN, Int.add_assoc]
theorem mkR_get {x : α} : ∀ {j : Nat} (k : Int) {l : List α}, l[j]? = some x → (mkR f n k l)[j]? = some (f (k + sumN n (l.take j)) x)
  | 0, k, y :: l, h => by simp at h; subst h; simp [mkR, sumN]
  | j + 1, k, y :: l, h => by
    simp at h
    simp only [mkR, List.getElem?_cons_succ, List.take_succ_cons, sumN]
    rw [mkR_get (k + n y) h]
    congr 2; omega
  | 0, k, [], h => by simp at h
  | j + 1, k, [], h => by simp at h
theorem mkR_take {x : α} {j : Nat} {l : List α} (k : Int) (h : l[j]? = some x) : mkR f n k (l.take (j + 1)) = mkR f n k (l.take j) ++ [f (k + sumN n (l.take j)) x] := by
  rw [take_snoc h, mkR_snoc]
theorem sumN_at {x : α} {j : Nat} {l : List α} (h : l[j]? = some x) : sumN n (l.take (j + 1)) = sumN n (l.take j) + n x := by
  rw [take_snoc h, sumN_snoc]
end
def nV (v : List ValP) : Nat := 4 * v.length
def mkVs (k : Int) (v : List ValP) : List ValP := mkL 4 mkV k v.length
theorem w163 (l : List (List ValP)) (k : Int) (hl : l.length ≤ 2^36) (hd : ∀ v ∈ l, v.length ≤ 2^36) (hk : 0 ≤ k) (hk2 : k + sumN nV l ≤ 2^40) : Contract Try.prog false 163 [.own, .ro] [.sl true 1 (l.map cvO), .i .i64 k] [.i .i64 (k + sumN nV l)] [some (.sl true 1 ((mkR mkVs nV k l).map cvO))] := by
  refine mk_contract [some [(1, 0)]] Try.func163 (c := Try.f163.body.get!) (by kernel_rfl) k163 r163 (of_decide_eq_true rfl) fun _ => ?_
  unfold c163; simp
  refine twp_for l.length (fun j s => s.t 0 = .rf [(1, 0)] 0 l.length ∧ s.t 1 = .i .i64 (k + sumN nV (l.take j)) ∧ s.t 5 = .i .i64 j ∧ s.H = lk [(1, [.sl true 1 ((mkR mkVs nV k (l.take j)).map cvO ++ (l.map cvO).drop j)])]) [] (by simp) ?_ ?_
  · simp [mkR, sumN]
  · rintro j s hj ⟨q0, q1, q5, qH⟩
    rw [nf_of qH]
    simp [q0, q1, q5]
    refine ⟨fun hlt => ?_, fun hge => ?_⟩
    · have hw : IntKind.i64.wrap (j + 1) = j + 1 := wrap_id (by omega) (by omega)
      obtain ⟨x, hx⟩ := get_some hlt
      have hmin : min j l.length = j := by omega
      have hs : sumN nV (l.take (j + 1)) = sumN nV (l.take j) + 4 * x.length := sumN_at hx
      have hle := sumN_take nV l (j + 1)
      have hxl := hd x (List.mem_of_getElem? hx)
      simp [hw, q0, q1, q5, drop_at hx, hmin]
      refine ⟨hlt, ?_⟩
      refine callW_ms [.own, .ro] ?_
      simp [hmin]
      refine callX_of (w113 x (k + sumN nV (l.take j)) hxl (by omega) (by omega)) (by simp) ?_
      simp [hw, q0, q1, q5, hmin, mkR_take k hx, hs, mkVs]
      omega
    · obtain rfl : j = l.length := by omega
      simp [q0, q1, q5]
theorem w168 (l : List (List ValP)) (k : Int) (hl : l.length ≤ 2^36) (hd : ∀ v ∈ l, v.length ≤ 2^36) (hk : 0 ≤ k) (hk2 : k + sumN nV l ≤ 2^40) : Contract Try.prog false 168 [.ro, .ro] [.sl false 1 ((mkR mkVs nV k l).map cvT), .i .i64 k] [.i .i64 (k + sumN nV l)] [] := by
  refine mk_contract [] Try.func168 (c := Try.f168.body.get!) (by kernel_rfl) k168 r168 (of_decide_eq_true rfl) fun _ => ?_
  unfold c168; simp
  refine twp_for l.length (fun j s => s.t 0 = .sl false 1 ((mkR mkVs nV k l).map cvT) ∧ s.t 1 = .i .i64 (k + sumN nV (l.take j)) ∧ s.t 5 = .i .i64 j ∧ s.H = lk [(1, [])]) [] (by simp) ?_ ?_
  · simp [sumN]
  · rintro j s hj ⟨q0, q1, q5, qH⟩
    rw [nf_of qH]
    simp [q0, q1, q5]
    refine ⟨fun hlt => ?_, fun hge => ?_⟩
    · have hw : IntKind.i64.wrap (j + 1) = j + 1 := wrap_id (by omega) (by omega)
      obtain ⟨x, hx⟩ := get_some hlt
      have hs : sumN nV (l.take (j + 1)) = sumN nV (l.take j) + 4 * x.length := sumN_at hx
      have hle := sumN_take nV l (j + 1)
      have hxl := hd x (List.mem_of_getElem? hx)
      simp [hw, q0, q1, q5, mkR_get k hx, mkVs]
      refine callW_ms [.ro, .ro] ?_
      simp
      refine callX_of (w129 x.length (k + sumN nV (l.take j)) hxl (by omega) (by omega)) (by simp) ?_
      simp [hw, q0, q1, q5, hs]
      omega
    · obtain rfl : j = l.length := by omega
      simp [q0, q1, q5]
def nTb (t : TableP) : Nat := t.1.length + 2 * t.2.1.length + sumN nV t.2.2
def mkE (k : Int) : Int × Int := (k, k + 1)
def mkTb (k : Int) (t : TableP) : TableP := (cnt k t.1.length, mkL 2 (fun k => (k, k + 1)) (k + t.1.length) t.2.1.length, mkR mkVs nV (k + t.1.length + 2 * t.2.1.length) t.2.2)
theorem w112 (l : List TableP) (k : Int) (hl : l.length ≤ 2^36) (hd : ∀ t ∈ l, okT t) (hk : 0 ≤ k) (hk2 : k + sumN nTb l ≤ 2^40) : Contract Try.prog false 112 [.own, .ro] [.sl true 3 (l.map tbO), .i .i64 k] [.i .i64 (k + sumN nTb l)] [some (.sl true 3 ((mkR mkTb nTb k l).map tbO))] := by
  refine mk_contract [some [(1, 0)]] Try.func112 (c := Try.f112.body.get!) (by kernel_rfl) k112 r112 (of_decide_eq_true rfl) fun _ => ?_
  unfold c112; simp
  refine twp_for l.length (fun j s => s.t 0 = .rf [(1, 0)] 0 l.length ∧ s.t 1 = .i .i64 (k + sumN nTb (l.take j)) ∧ s.t 5 = .i .i64 j ∧ s.H = lk [(1, [.sl true 3 ((mkR mkTb nTb k (l.take j)).map tbO ++ (l.map tbO).drop j)])]) [] (by simp) ?_ ?_
  · simp [mkR, sumN]
  · rintro j s hj ⟨q0, q1, q5, qH⟩
    rw [nf_of qH]
    simp [q0, q1, q5]
    refine ⟨fun hlt => ?_, fun hge => ?_⟩
    · have hw : IntKind.i64.wrap (j + 1) = j + 1 := wrap_id (by omega) (by omega)
      obtain ⟨x, hx⟩ := get_some hlt
      have hmin : min j l.length = j := by omega
      have hs : sumN nTb (l.take (j + 1)) = sumN nTb (l.take j) + (x.1.length + 2 * x.2.1.length + sumN nV x.2.2) := sumN_at hx
      have hle := sumN_take nTb l (j + 1)
      obtain ⟨h1, h2, h3, h4⟩ := hd x (List.mem_of_getElem? hx)
      simp [hw, q0, q1, q5, drop_at hx, hmin]
      refine ⟨hlt, ?_⟩
      refine callW_ms [.own, .ro] ?_
      simp [hmin]
      refine callX_of (w34 x.1 (k + sumN nTb (l.take j)) (by omega) (by omega) (by omega)) (by simp) ?_
      simp [hw, q0, q1, q5, hmin]
      refine ⟨hlt, ?_⟩
      refine callW_ms [.own, .ro] ?_
      simp [hmin]
      refine callX_of (w57 x.2.1 (k + sumN nTb (l.take j) + x.1.length) (by omega) (by omega) (by omega)) (by simp) ?_
      simp [hw, q0, q1, q5, hmin]
      refine ⟨hlt, ?_⟩
      refine callW_ms [.own, .ro] ?_
      simp [hmin]
      refine callX_of (w163 x.2.2 (k + sumN nTb (l.take j) + x.1.length + 2 * x.2.1.length) (by omega) h4 (by omega) (by omega)) (by simp) ?_
      simp [hw, q0, q1, q5, hmin, mkR_take k hx, hs, mkTb]
      omega
    · obtain rfl : j = l.length := by omega
      simp [q0, q1, q5]
theorem w128 (l : List TableP) (k : Int) (hl : l.length ≤ 2^36) (hd : ∀ t ∈ l, okT t) (hk : 0 ≤ k) (hk2 : k + sumN nTb l ≤ 2^40) : Contract Try.prog false 128 [.ro, .ro] [.sl false 3 ((mkR mkTb nTb k l).map tbT), .i .i64 k] [.i .i64 (k + sumN nTb l)] [] := by
  refine mk_contract [] Try.func128 (c := Try.f128.body.get!) (by kernel_rfl) k128 r128 (of_decide_eq_true rfl) fun _ => ?_
  unfold c128; simp
  refine twp_for l.length (fun j s => s.t 0 = .sl false 3 ((mkR mkTb nTb k l).map tbT) ∧ s.t 1 = .i .i64 (k + sumN nTb (l.take j)) ∧ s.t 5 = .i .i64 j ∧ s.H = lk [(1, [])]) [] (by simp) ?_ ?_
  · simp [sumN]
  · rintro j s hj ⟨q0, q1, q5, qH⟩
    rw [nf_of qH]
    simp [q0, q1, q5]
    refine ⟨fun hlt => ?_, fun hge => ?_⟩
    · have hw : IntKind.i64.wrap (j + 1) = j + 1 := wrap_id (by omega) (by omega)
      obtain ⟨x, hx⟩ := get_some hlt
      have hs : sumN nTb (l.take (j + 1)) = sumN nTb (l.take j) + (x.1.length + 2 * x.2.1.length + sumN nV x.2.2) := sumN_at hx
      have hle := sumN_take nTb l (j + 1)
      obtain ⟨h1, h2, h3, h4⟩ := hd x (List.mem_of_getElem? hx)
      have hn1 : ¬ (k + sumN nTb (l.take j) + x.1.length < 0) := by omega
      have hn2 : ¬ (k + sumN nTb (l.take j) + x.1.length + 2 * x.2.1.length < 0) := by omega
      have hn3 : ¬ (k + sumN nTb (l.take j) + x.1.length + 2 * x.2.1.length + sumN nV x.2.2 < 0) := by omega
      simp [hw, q0, q1, q5, mkR_get k hx, mkTb]
      refine callW_ms [.ro, .ro] ?_
      simp
      refine callX_of (w35 (cnt (k + sumN nTb (l.take j)) x.1.length) (k + sumN nTb (l.take j)) (by simp; omega) (by omega) (by omega)) (by simp) ?_
      simp [hw, q0, q1, q5, hn1, mkR_get k hx, mkTb]
      refine callW_ms [.ro, .ro] ?_
      simp
      refine callX_of (w58 x.2.1.length (k + sumN nTb (l.take j) + x.1.length) (by omega) (by omega) (by omega)) (by simp) ?_
      simp [hw, q0, q1, q5, hn2, mkR_get k hx, mkTb]
      refine callW_ms [.ro, .ro] ?_
      simp
      refine callX_of (w168 x.2.2 (k + sumN nTb (l.take j) + x.1.length + 2 * x.2.1.length) (by omega) h4 (by omega) (by omega)) (by simp) ?_
      simp [hw, q0, q1, q5, hn3, hs]
      omega
    · obtain rfl : j = l.length := by omega
      simp [q0, q1, q5]
def nW (w : WorldP) : Nat := w.1.length + w.2.1.length + sumN nTb w.2.2.1 + 4 * w.2.2.2.length
def mkW (k : Int) (w : WorldP) : WorldP := (cnt k w.1.length, cnt (k + w.1.length) w.2.1.length, mkR mkTb nTb (k + w.1.length + w.2.1.length) w.2.2.1, mkL 4 mkV (k + w.1.length + w.2.1.length + sumN nTb w.2.2.1) w.2.2.2.length)
@[simp] theorem mkW_1 (k : Int) (w : WorldP) : (mkW k w).1.length = w.1.length := by simp [mkW]
@[simp] theorem mkW_2 (k : Int) (w : WorldP) : (mkW k w).2.1.length = w.2.1.length := by simp [mkW]
@[simp] theorem mkW_3 (k : Int) (w : WorldP) : (mkW k w).2.2.1.length = w.2.2.1.length := by simp [mkW]
@[simp] theorem mkW_4 (k : Int) (w : WorldP) : (mkW k w).2.2.2.length = w.2.2.2.length := by simp [mkW]
theorem w56 (w : WorldP) (k : Int) (h : okW w) (hk : 0 ≤ k) (hk2 : k + nW w ≤ 2^30) : Contract Try.prog false 56 [.own, .ro] [worldO w.1 w.2.1 w.2.2.1 w.2.2.2, .i .i64 k] [.i .i64 (k + nW w)] [some (.sl true 1 ((mkW k w).1.map iT)), some (.sl true 1 ((mkW k w).2.1.map iT)), some (.sl true 3 ((mkW k w).2.2.1.map tbO)), some (.sl true 4 ((mkW k w).2.2.2.map vT))] := by
  refine mk_contract [some [(4, 0), (0, 0)], some [(4, 0), (0, 1)], some [(4, 0), (0, 2)], some [(4, 0), (0, 3)]] Try.func56 (c := Try.f56.body.get!) (by kernel_rfl) k56 r56 (of_decide_eq_true rfl) fun _ => ?_
  obtain ⟨h1, h2, ⟨h3, h4⟩, h5⟩ := h
  obtain ⟨g, f, ts, rs⟩ := w
  simp only [nW, mkW] at h1 h2 h3 h4 h5 hk2 ⊢
  unfold c56; simp
  refine callW_ms [.own, .ro] ?_
  simp
  refine callX_of (w111 g f k (by omega) (by omega) hk (by omega)) (by simp) ?_
  simp [entsO]
  refine callW_ms [.own, .ro] ?_
  simp
  refine callX_of (w112 ts (k + g.length + f.length) h3 h4 (by omega) (by omega)) (by simp) ?_
  simp
  refine callW_ms [.own, .ro] ?_
  simp
  refine callX_of (w113 rs (k + g.length + f.length + sumN nTb ts) (by omega) (by omega) (by omega)) (by simp) ?_
  simp
  omega
theorem w67 (w : WorldP) (k : Int) (h : okW w) (hk : 0 ≤ k) (hk2 : k + nW w ≤ 2^30) : Contract Try.prog false 67 [.ro, .ro] [worldR (mkW k w).1 (mkW k w).2.1 (mkW k w).2.2.1 (mkW k w).2.2.2, .i .i64 k] [.i .i64 (k + nW w)] [] := by
  refine mk_contract [] Try.func67 (c := Try.f67.body.get!) (by kernel_rfl) k67 r67 (of_decide_eq_true rfl) fun _ => ?_
  obtain ⟨h1, h2, ⟨h3, h4⟩, h5⟩ := h
  obtain ⟨g, f, ts, rs⟩ := w
  simp only [nW, mkW] at h1 h2 h3 h4 h5 hk2 ⊢
  have hn1 : ¬ (k + g.length + f.length < 0) := by omega
  have hn2 : ¬ (k + g.length + f.length + sumN nTb ts < 0) := by omega
  have hn3 : ¬ (k + g.length + f.length + sumN nTb ts + 4 * rs.length < 0) := by omega
  unfold c67; simp
  refine callW_ms [.ro, .ro] ?_
  simp [entsR]
  refine callX_of (w127 g.length f.length k (by omega) (by omega) hk (by omega)) (by simp) ?_
  simp [hn1]
  refine callW_ms [.ro, .ro] ?_
  simp
  refine callX_of (w128 ts (k + g.length + f.length) h3 h4 (by omega) (by omega)) (by simp) ?_
  simp [hn2]
  refine callW_ms [.ro, .ro] ?_
  simp
  refine callX_of (w129 rs.length (k + g.length + f.length + sumN nTb ts) (by omega) (by omega) (by omega)) (by simp) ?_
  simp [hn3]
  omega
theorem sumN_le {α : Type} {c d : α → Nat} (h : ∀ x, c x ≤ d x) (l : List α) : sumN c l ≤ sumN d l := by
  induction l with
  | nil => simp [sumN]
  | cons x l ih => have := h x; simp only [sumN]; omega
theorem sumN_mul {α : Type} (m : Nat) (c : α → Nat) (l : List α) : sumN (fun x => m * c x) l = m * sumN c l := by
  induction l with
  | nil => simp [sumN]
  | cons x l ih => simp only [sumN, ih, Nat.mul_add]
theorem nTb_le (t : TableP) : nTb t ≤ 4 * cT t := by
  have : sumN nV t.2.2 = 4 * sumN (fun v : List ValP => v.length) t.2.2 := sumN_mul 4 (fun v : List ValP => v.length) t.2.2
  unfold nTb cT; omega
theorem nW_le (w : WorldP) : nW w ≤ 4 * cW w := by
  have h1 := sumN_le nTb_le w.2.2.1
  rw [sumN_mul] at h1
  unfold nW cW; omega
end Go.Proofs.YtmedelmfkciblaaT
