/- Texts of this session's own, one behind the other: Kv0, Kv1, Kv2, Kw1, Kb, Kc, Kd, Ke, Kf, Kg, Kx1, Ku1, Ku2. -/
import Derived.Test.YtehmdblkkpdmoaaGreatPk10
import Derived.Tactics2
import Derived.Laws.Externs
namespace Go.Proofs.YtehmdblkkpdmoaaGreatT
set_option linter.unusedVariables false
set_option linter.unusedSimpArgs false
open Go
theorem contract_vals {P : Program} {g : FuncId} {args : List TV} {u : TV} (ha : isAg u = false)
    (h : ∀ (w : World) (vs : List Value) (κ : Path → Value) (A : Nat → Nat → Prop), args.length = vs.length → (∀ (j : Nat) (u : TV) (v : Value), args[j]? = some u → vs[j]? = some v → RV w κ (fun _ => []) A u v) →
      ∃ v, isAgV v = false ∧ (∀ A', RR w A' u v) ∧ Calls P g vs.toArray w fun e w' => e = .returned v ∧ w' = w) :
    Contract P false g (args.map fun _ => .ro) args [u] [] := by
  intro w vs κ γ A hargs hγ hA
  obtain ⟨v, hv0, hv, hc⟩ := h w vs κ A hargs.len fun j x y hx hy => hargs.ro j x y (by simp [hx]) hx hy
  refine hc.mono fun e w' he => ?_
  obtain ⟨rfl, rfl⟩ := he
  have hcu : cellsT u = [u] := by cases u <;> first | rfl | cases ha
  have hcv : cellsV v = [v] := by cases v <;> first | rfl | cases hv0
  refine ⟨[v], fun q => if q = [(0, 0)] then v else κ q, γ, rfl, ⟨rfl, fun j a b h1 h2 => ?_, fun m c hm => ?_, fun m x hm => ?_⟩, fun m x hm => by simp at hm, fun b o q hb => ⟨hγ b o q hb, .inl ⟨q, hb⟩⟩, Chg.refl _ _⟩
  · cases j with
    | zero => cases h1; cases h2; exact ⟨by rw [ha, hv0], by rw [hcu, hcv]; rfl⟩
    | succ j => cases h1
  · rw [show ([u] : List TV).flatMap cellsT = [u] by rw [List.flatMap_cons, hcu]; rfl] at hm
    cases m with
    | zero => simp at hm; subst hm; simp; exact .pure _ _ _ (hv _)
    | succ m => simp at hm
  · rw [show ([v] : List Value).flatMap cellsV = [v] by rw [List.flatMap_cons, hcv]; rfl] at hm
    cases m with
    | zero => simp at hm; subst hm; simp
    | succ m => simp at hm
theorem canon_zero (x : Nat) : canon x = 0 ↔ x = 0 := by
  unfold canon
  split
  · rename_i h
    constructor
    · intro h2; simp at h2
    · rintro rfl; exfalso; revert h; decide
  · rfl
theorem bits_run (x : Nat) (W : World) : (callFunc 139 #[.float .f64 x]).run Tryz.prog W = .ok (.value (.int .u64 (x : Int))) W := by
  rw [run_callFunc_extern (fn := Tryz.f139) (e := Extern.MathFloatBits.float64bits) Tryz.func139 (by kernel_rfl) (by kernel_rfl) (by kernel_rfl) (by kernel_rfl)]
  rfl
theorem w134 (x : Nat) : Contract Tryz.prog false 134 [.ro] [.f x] [.b (decide (x = 0))] [] := by
  refine contract_vals (args := [.f x]) rfl fun w vs κ A hl hv => ?_
  obtain ⟨v, rfl⟩ : ∃ v, vs = [v] := by
    match vs, hl with
    | [v], _ => exact ⟨v, rfl⟩
  obtain ⟨y, rfl, hy⟩ := rv_f (hv 0 _ _ rfl rfl)
  subst hy
  refine ⟨.bool (decide (canon y = 0)), rfl, fun A' => .b _, ?_⟩
  have hf := bits_run y
  rw [show decide (canon y = 0) = decide (y = 0) from decide_eq_decide.2 (canon_zero y)]
  go_enter Tryz.func134, Tryz.ntmps134
  go_wp2
  go_ret
  exact ⟨by simp; by_cases h : y = 0 <;> simp [h], rfl⟩
end Go.Proofs.YtehmdblkkpdmoaaGreatT


namespace Go.Proofs.YtehmdblkkpdmoaaGreatT
set_option linter.unusedVariables false
set_option linter.unusedSimpArgs false
open Go
def c109 : TCode := (.seq (.ops [⟨(some 2), 4, .mv (.c (.b false)), none, []⟩])
  (.seq (.ops [⟨(some 3), 5, .mv (.t 0), none, []⟩, ⟨(some 4), 6, .bin .eql (.t 3) (.c (.f 0)), none, []⟩, ⟨(some 5), 7, .mv (.t 4), none, []⟩, ⟨(some 6), 8, .mv (.t 0), (some (5, true)), []⟩, ⟨(some 7), 9, .bin .quo (.c (.f 4607182418800017408)) (.t 6), (some (5, true)), []⟩, ⟨(some 8), 10, .bin .gtr (.t 7) (.c (.f 0)), (some (5, true)), []⟩, ⟨(some 9), 11, .pick (.t 5) (.t 8) (.c (.b false)), none, []⟩, ⟨(some 2), 4, .mv (.t 9), none, []⟩])
  .ret))
theorem k109 : compCode Tryz.prog Tryz.f109.ntmps Tryz.f109.body.get! = some c109 := by kernel_rfl
theorem r109 : resTmps Tryz.prog Tryz.f109.results.toList = some [.tmp 2] := by kernel_rfl
def c125 : TCode := (.seq (.ops [⟨(some 4), 6, .mv (.c (.b false)), none, []⟩])
  (.seq (.seq (.ops [⟨(some 5), 7, .mv (.t 0), none, []⟩, ⟨(some 6), 8, .mv (.t 0), none, []⟩, ⟨(some 7), 9, .bin .neq (.t 5) (.t 6), none, []⟩, ⟨(some 8), 10, .mv (.t 7), none, []⟩, ⟨(some 9), 11, .mv (.t 1), (some (8, false)), []⟩, ⟨(some 10), 12, .mv (.t 1), (some (8, false)), []⟩, ⟨(some 11), 13, .bin .neq (.t 9) (.t 10), (some (8, false)), []⟩, ⟨(some 12), 14, .pick (.t 8) (.c (.b true)) (.t 11), none, []⟩])
  (.cond (.t 12)
  (.seq (.ops [⟨(some 13), 15, .mv (.t 0), none, []⟩, ⟨(some 14), 16, .mv (.t 0), none, []⟩, ⟨(some 15), 17, .bin .neq (.t 13) (.t 14), none, []⟩, ⟨(some 16), 18, .mv (.t 15), none, []⟩, ⟨(some 17), 19, .mv (.t 1), (some (16, true)), []⟩, ⟨(some 18), 20, .mv (.t 1), (some (16, true)), []⟩, ⟨(some 19), 21, .bin .neq (.t 17) (.t 18), (some (16, true)), []⟩, ⟨(some 20), 22, .pick (.t 16) (.t 19) (.c (.b false)), none, []⟩, ⟨(some 4), 6, .mv (.t 20), none, []⟩])
  .ret)
  .skip))
  (.seq (.seq (.ops [⟨(some 21), 23, .mv (.t 0), none, []⟩, ⟨(some 22), 24, .bin .eql (.t 21) (.c (.f 0)), none, []⟩, ⟨(some 23), 25, .mv (.t 22), none, []⟩, ⟨(some 24), 26, .mv (.t 1), (some (23, true)), []⟩, ⟨(some 25), 27, .bin .eql (.t 24) (.c (.f 0)), (some (23, true)), []⟩, ⟨(some 26), 28, .pick (.t 23) (.t 25) (.c (.b false)), none, []⟩])
  (.cond (.t 26)
  (.seq (.ops [⟨(some 27), 29, .mv (.t 0), none, []⟩, ⟨(some 28), 30, .bin .quo (.c (.f 4607182418800017408)) (.t 27), none, []⟩, ⟨(some 29), 31, .bin .gtr (.t 28) (.c (.f 0)), none, []⟩, ⟨(some 30), 32, .mv (.t 1), none, []⟩, ⟨(some 31), 33, .bin .quo (.c (.f 4607182418800017408)) (.t 30), none, []⟩, ⟨(some 32), 34, .bin .gtr (.t 31) (.c (.f 0)), none, []⟩, ⟨(some 33), 35, .eqs false false [.b] (.t 29) (.t 32), none, []⟩, ⟨(some 4), 6, .mv (.t 33), none, []⟩])
  .ret)
  .skip))
  (.seq (.ops [⟨(some 34), 36, .mv (.t 0), none, []⟩, ⟨(some 35), 37, .mv (.t 1), none, []⟩, ⟨(some 36), 38, .bin .eql (.t 34) (.t 35), none, []⟩, ⟨(some 4), 6, .mv (.t 36), none, []⟩])
  .ret))))
theorem k125 : compCode Tryz.prog Tryz.f125.ntmps Tryz.f125.body.get! = some c125 := by kernel_rfl
theorem r125 : resTmps Tryz.prog Tryz.f125.results.toList = some [.tmp 4] := by kernel_rfl
def c19 : TCode := (.seq (.ops [⟨(some 1), 3, .box 4 (.t 0), none, []⟩, ⟨(some 2), 4, .box 4 (.c (.ag [(.i .i64 0), (.i .i64 0), (.f 0), (.f 0)])), none, []⟩])
  (.seq (.ops [⟨(some 3), 5, .box 4 (.c (.ag [(.i .i64 0), (.i .i64 0), (.f 0), (.f 0)])), none, []⟩])
  (.seq (.ops [⟨(some 4), 6, .faddr 0 1 (.t 1), none, []⟩, ⟨(some 5), 7, .load false 1 (.t 4), none, []⟩, ⟨(some 6), 8, .faddr 0 1 (.t 3), none, []⟩, ⟨none, 1002003, .store 1 (.t 6) (.t 5), none, []⟩])
  (.seq (.ops [⟨(some 7), 9, .faddr 1 1 (.t 1), none, []⟩, ⟨(some 8), 10, .load false 1 (.t 7), none, []⟩, ⟨(some 9), 11, .faddr 1 1 (.t 3), none, []⟩, ⟨none, 1003003, .store 1 (.t 9) (.t 8), none, []⟩])
  (.seq (.ops [⟨(some 10), 12, .faddr 2 1 (.t 1), none, []⟩, ⟨(some 11), 13, .load false 1 (.t 10), none, []⟩, ⟨(some 12), 14, .faddr 2 1 (.t 3), none, []⟩, ⟨none, 1004003, .store 1 (.t 12) (.t 11), none, []⟩])
  (.seq (.ops [⟨(some 13), 15, .faddr 3 1 (.t 1), none, []⟩, ⟨(some 14), 16, .load false 1 (.t 13), none, []⟩, ⟨(some 15), 17, .faddr 3 1 (.t 3), none, []⟩, ⟨none, 1005003, .store 1 (.t 15) (.t 14), none, []⟩])
  (.seq (.ops [⟨(some 16), 18, .load true 4 (.t 3), none, []⟩, ⟨none, 1006001, .store 4 (.t 2) (.t 16), none, []⟩])
  .ret)))))))
theorem k19 : compCode Tryz.prog Tryz.f19.ntmps Tryz.f19.body.get! = some c19 := by kernel_rfl
theorem r19 : resTmps Tryz.prog Tryz.f19.results.toList = some [.cell 2 true 4] := by kernel_rfl
def c89 : TCode := (.seq (.ops [⟨(some 2), 4, .box 4 (.t 0), none, []⟩, ⟨(some 3), 5, .box 4 (.t 1), none, []⟩, ⟨(some 4), 6, .mv (.c (.b false)), none, []⟩])
  (.seq (.seq (.ops [⟨(some 5), 7, .faddr 0 1 (.t 2), none, []⟩, ⟨(some 6), 8, .load false 1 (.t 5), none, []⟩, ⟨(some 7), 9, .faddr 0 1 (.t 3), none, []⟩, ⟨(some 8), 10, .load false 1 (.t 7), none, []⟩, ⟨(some 9), 11, .bin .neq (.t 6) (.t 8), none, []⟩])
  (.cond (.t 9)
  (.seq (.ops [⟨(some 4), 6, .mv (.c (.b false)), none, []⟩])
  .ret)
  .skip))
  (.seq (.seq (.ops [⟨(some 10), 12, .faddr 1 1 (.t 2), none, []⟩, ⟨(some 11), 13, .load false 1 (.t 10), none, []⟩, ⟨(some 12), 14, .faddr 1 1 (.t 3), none, []⟩, ⟨(some 13), 15, .load false 1 (.t 12), none, []⟩, ⟨(some 14), 16, .bin .neq (.t 11) (.t 13), none, []⟩])
  (.cond (.t 14)
  (.seq (.ops [⟨(some 4), 6, .mv (.c (.b false)), none, []⟩])
  .ret)
  .skip))
  (.seq (.seq (.ops [⟨(some 15), 17, .faddr 2 1 (.t 2), none, []⟩, ⟨(some 16), 18, .load false 1 (.t 15), none, []⟩, ⟨(some 17), 19, .faddr 2 1 (.t 3), none, []⟩, ⟨(some 18), 20, .load false 1 (.t 17), none, []⟩, ⟨(some 19), 21, .call 125 [((.t 16), 0), ((.t 18), 0)], none, []⟩, ⟨(some 20), 22, .un .not (.t 19), none, []⟩])
  (.cond (.t 20)
  (.seq (.ops [⟨(some 4), 6, .mv (.c (.b false)), none, []⟩])
  .ret)
  .skip))
  (.seq (.seq (.ops [⟨(some 21), 23, .faddr 3 1 (.t 2), none, []⟩, ⟨(some 22), 24, .load false 1 (.t 21), none, []⟩, ⟨(some 23), 25, .faddr 3 1 (.t 3), none, []⟩, ⟨(some 24), 26, .load false 1 (.t 23), none, []⟩, ⟨(some 25), 27, .call 125 [((.t 22), 0), ((.t 24), 0)], none, []⟩, ⟨(some 26), 28, .un .not (.t 25), none, []⟩])
  (.cond (.t 26)
  (.seq (.ops [⟨(some 4), 6, .mv (.c (.b false)), none, []⟩])
  .ret)
  .skip))
  (.seq (.ops [⟨(some 4), 6, .mv (.c (.b true)), none, []⟩])
  .ret))))))
theorem k89 : compCode Tryz.prog Tryz.f89.ntmps Tryz.f89.body.get! = some c89 := by kernel_rfl
theorem r89 : resTmps Tryz.prog Tryz.f89.results.toList = some [.tmp 4] := by kernel_rfl
theorem w109 (x : Nat) (hx : fOk x) : Contract Tryz.prog false 109 [.ro] [.f x] [.b (decide (x = 0))] [] := by
  refine mk_contract [] Tryz.func109 (c := Tryz.f109.body.get!) (by kernel_rfl) k109 r109 (of_decide_eq_true rfl) fun _ => ?_
  unfold c109; simp [feqz hx]
  by_cases h0 : x = 0
  · subst h0; simp [inv_zero, gt_infb]
  by_cases h1 : x = 9223372036854775808
  · subst h1; simp [inv_mzero, gt_minfb]
  simp [h0, h1]
abbrev ValP := Int × Int × Nat × Nat
def valOkF (v : ValP) : Prop := fOk v.2.2.1 ∧ fOk v.2.2.2
@[simp] def vT (v : ValP) : List TV := [.i .i64 v.1, .i .i64 v.2.1, .f v.2.2.1, .f v.2.2.2]
@[simp] theorem fzL_vT (v : ValP) : fzL (vT v) = vT v := rfl
@[simp] theorem fzLL_vT (l : List (ValP)) : fzLL (l.map vT) = l.map vT := fzLL_map fzL_vT l
@[simp] theorem noROLL_vT (l : List (ValP)) : noROLL (l.map vT) = true := noROLL_map (fun _ => rfl) l
@[simp] theorem noref_vT (l : List (ValP)) : (l.map vT).all (·.all noref) = true := noref_map (fun _ => rfl) l
@[simp] theorem srcT_vT (H : Hp) (z : Nat) (l : List (ValP)) : srcT H (.sl false z (l.map vT)) = some (z, l.map vT, H, []) := by simp only [srcT, noref_vT, if_true]
def valV (v : ValP) : TV := .ag [.i .i64 v.1, .i .i64 v.2.1, .f v.2.2.1, .f v.2.2.2]
theorem w19 (v : ValP) : Contract Tryz.prog false 19 [.ro] [valV v] [valV v] [] := by
  refine mk_contract [] Tryz.func19 (c := Tryz.f19.body.get!) (by kernel_rfl) k19 r19 (of_decide_eq_true rfl) fun _ => ?_
  unfold c19; unfold valV; simp
theorem W125r (x : Nat) : Contract Tryz.prog false 125 [.ro, .ro] [.f x, .f x] [.b true] [] := by
  refine mk_contract [] Tryz.func125 (c := Tryz.f125.body.get!) (by kernel_rfl) k125 r125 (of_decide_eq_true rfl) fun _ => ?_
  unfold c125; simp [fne_self]
  by_cases nx : isN x
  · simp [nx, fne_self]
  · cases hz : FloatKind.f64.format.order x 0 == some .eq
    · simp [nx, fne_self, hz, feq_self nx]
    · simp [nx, fne_self, hz, feq_self nx]
theorem W89r (a : ValP) : Contract Tryz.prog false 89 [.ro, .ro] [valV a, valV a] [.b true] [] := by
  refine mk_contract [] Tryz.func89 (c := Tryz.f89.body.get!) (by kernel_rfl) k89 r89 (of_decide_eq_true rfl) fun _ => ?_
  unfold c89; unfold valV; simp
  refine callW_ms [.ro, .ro] ?_
  simp
  refine callX_of (W125r a.2.2.1) (by simp) ?_
  simp
  refine callW_ms [.ro, .ro] ?_
  simp
  refine callX_of (W125r a.2.2.2) (by simp) ?_
  simp
end Go.Proofs.YtehmdblkkpdmoaaGreatT


namespace Go.Proofs.YtehmdblkkpdmoaaGreatT
set_option linter.unusedVariables false
set_option linter.unusedSimpArgs false
open Go
def c61 : TCode := (.seq (.ops [⟨(some 1), 3, .box 4 (.t 0), none, []⟩, ⟨(some 2), 4, .mv (.c (.b false)), none, []⟩])
  (.seq (.seq (.ops [⟨(some 3), 5, .faddr 0 1 (.t 1), none, []⟩, ⟨(some 4), 6, .load false 1 (.t 3), none, []⟩])
  (.block 0 (.seq (.ops [⟨(some 6), 8, .bin .eql (.t 4) (.c (.i .i64 1)), none, []⟩, ⟨(some 5), 7, .mv (.t 6), none, []⟩])
  (.cond (.t 5)
  (.seq (.ops [⟨(some 7), 9, .faddr 2 1 (.t 1), none, []⟩, ⟨(some 8), 10, .load false 1 (.t 7), none, []⟩, ⟨(some 9), 11, .call 109 [((.t 8), 0)], none, []⟩, ⟨(some 10), 12, .mv (.t 9), none, []⟩, ⟨(some 11), 13, .faddr 3 1 (.t 1), (some (10, true)), []⟩, ⟨(some 12), 14, .load false 1 (.t 11), (some (10, true)), []⟩, ⟨(some 13), 15, .call 109 [((.t 12), 0)], (some (10, true)), []⟩, ⟨(some 14), 16, .pick (.t 10) (.t 13) (.c (.b false)), none, []⟩, ⟨(some 2), 4, .mv (.t 14), none, []⟩])
  .ret)
  (.seq (.ops [⟨(some 16), 18, .bin .eql (.t 4) (.c (.i .i64 2)), none, []⟩, ⟨(some 15), 17, .mv (.t 16), none, []⟩])
  (.cond (.t 15)
  (.seq (.ops [⟨(some 17), 19, .faddr 1 1 (.t 1), none, []⟩, ⟨(some 18), 20, .load false 1 (.t 17), none, []⟩, ⟨(some 19), 21, .bin .eql (.t 18) (.c (.i .i64 0)), none, []⟩, ⟨(some 20), 22, .mv (.t 19), none, []⟩, ⟨(some 21), 23, .faddr 3 1 (.t 1), (some (20, true)), []⟩, ⟨(some 22), 24, .load false 1 (.t 21), (some (20, true)), []⟩, ⟨(some 23), 25, .call 109 [((.t 22), 0)], (some (20, true)), []⟩, ⟨(some 24), 26, .pick (.t 20) (.t 23) (.c (.b false)), none, []⟩, ⟨(some 2), 4, .mv (.t 24), none, []⟩])
  .ret)
  (.seq (.ops [⟨(some 26), 28, .bin .eql (.t 4) (.c (.i .i64 3)), none, []⟩, ⟨(some 25), 27, .mv (.t 26), none, []⟩])
  (.cond (.t 25)
  (.seq (.ops [⟨(some 27), 29, .faddr 1 1 (.t 1), none, []⟩, ⟨(some 28), 30, .load false 1 (.t 27), none, []⟩, ⟨(some 29), 31, .bin .eql (.t 28) (.c (.i .i64 0)), none, []⟩, ⟨(some 2), 4, .mv (.t 29), none, []⟩])
  .ret)
  (.seq (.ops [⟨(some 31), 33, .bin .eql (.t 4) (.c (.i .i64 4)), none, []⟩, ⟨(some 30), 32, .mv (.t 31), none, []⟩])
  (.cond (.t 30)
  (.seq (.ops [⟨(some 32), 34, .faddr 1 1 (.t 1), none, []⟩, ⟨(some 33), 35, .load false 1 (.t 32), none, []⟩, ⟨(some 34), 36, .bin .eql (.t 33) (.c (.i .i64 0)), none, []⟩, ⟨(some 35), 37, .mv (.t 34), none, []⟩, ⟨(some 36), 38, .faddr 1 1 (.t 1), (some (35, false)), []⟩, ⟨(some 37), 39, .load false 1 (.t 36), (some (35, false)), []⟩, ⟨(some 38), 40, .bin .eql (.t 37) (.c (.i .i64 1)), (some (35, false)), []⟩, ⟨(some 39), 41, .pick (.t 35) (.c (.b true)) (.t 38), none, []⟩, ⟨(some 40), 42, .mv (.t 39), none, []⟩, ⟨(some 41), 43, .faddr 2 1 (.t 1), (some (40, true)), []⟩, ⟨(some 42), 44, .load false 1 (.t 41), (some (40, true)), []⟩, ⟨(some 43), 45, .call 109 [((.t 42), 0)], (some (40, true)), []⟩, ⟨(some 44), 46, .pick (.t 40) (.t 43) (.c (.b false)), none, []⟩, ⟨(some 45), 47, .mv (.t 44), none, []⟩, ⟨(some 46), 48, .faddr 3 1 (.t 1), (some (45, true)), []⟩, ⟨(some 47), 49, .load false 1 (.t 46), (some (45, true)), []⟩, ⟨(some 48), 50, .call 109 [((.t 47), 0)], (some (45, true)), []⟩, ⟨(some 49), 51, .pick (.t 45) (.t 48) (.c (.b false)), none, []⟩, ⟨(some 2), 4, .mv (.t 49), none, []⟩])
  .ret)
  .skip))))))))))
  (.seq (.ops [⟨(some 2), 4, .mv (.c (.b false)), none, []⟩])
  .ret)))
theorem k61 : compCode Tryz.prog Tryz.f61.ntmps Tryz.f61.body.get! = some c61 := by kernel_rfl
theorem r61 : resTmps Tryz.prog Tryz.f61.results.toList = some [.tmp 2] := by kernel_rfl
def c120 : TCode := (.seq (.ops [⟨(some 1), 3, .box 4 (.t 0), none, []⟩, ⟨(some 2), 4, .mv (.c (.b false)), none, []⟩])
  (.seq (.seq (.ops [⟨(some 3), 5, .faddr 0 1 (.t 1), none, []⟩, ⟨(some 4), 6, .load false 1 (.t 3), none, []⟩])
  (.block 0 (.seq (.ops [⟨(some 6), 8, .bin .eql (.t 4) (.c (.i .i64 1)), none, []⟩, ⟨(some 5), 7, .mv (.t 6), none, []⟩])
  (.cond (.t 5)
  (.seq (.ops [⟨(some 7), 9, .faddr 2 1 (.t 1), none, []⟩, ⟨(some 8), 10, .load false 1 (.t 7), none, []⟩, ⟨(some 9), 11, .call 134 [((.t 8), 0)], none, []⟩, ⟨(some 10), 12, .mv (.t 9), none, []⟩, ⟨(some 11), 13, .faddr 3 1 (.t 1), (some (10, true)), []⟩, ⟨(some 12), 14, .load false 1 (.t 11), (some (10, true)), []⟩, ⟨(some 13), 15, .call 134 [((.t 12), 0)], (some (10, true)), []⟩, ⟨(some 14), 16, .pick (.t 10) (.t 13) (.c (.b false)), none, []⟩, ⟨(some 2), 4, .mv (.t 14), none, []⟩])
  .ret)
  (.seq (.ops [⟨(some 16), 18, .bin .eql (.t 4) (.c (.i .i64 2)), none, []⟩, ⟨(some 15), 17, .mv (.t 16), none, []⟩])
  (.cond (.t 15)
  (.seq (.ops [⟨(some 17), 19, .faddr 1 1 (.t 1), none, []⟩, ⟨(some 18), 20, .load false 1 (.t 17), none, []⟩, ⟨(some 19), 21, .bin .eql (.t 18) (.c (.i .i64 0)), none, []⟩, ⟨(some 20), 22, .mv (.t 19), none, []⟩, ⟨(some 21), 23, .faddr 3 1 (.t 1), (some (20, true)), []⟩, ⟨(some 22), 24, .load false 1 (.t 21), (some (20, true)), []⟩, ⟨(some 23), 25, .call 134 [((.t 22), 0)], (some (20, true)), []⟩, ⟨(some 24), 26, .pick (.t 20) (.t 23) (.c (.b false)), none, []⟩, ⟨(some 2), 4, .mv (.t 24), none, []⟩])
  .ret)
  (.seq (.ops [⟨(some 26), 28, .bin .eql (.t 4) (.c (.i .i64 3)), none, []⟩, ⟨(some 25), 27, .mv (.t 26), none, []⟩])
  (.cond (.t 25)
  (.seq (.ops [⟨(some 27), 29, .faddr 1 1 (.t 1), none, []⟩, ⟨(some 28), 30, .load false 1 (.t 27), none, []⟩, ⟨(some 29), 31, .bin .eql (.t 28) (.c (.i .i64 0)), none, []⟩, ⟨(some 2), 4, .mv (.t 29), none, []⟩])
  .ret)
  (.seq (.ops [⟨(some 31), 33, .bin .eql (.t 4) (.c (.i .i64 4)), none, []⟩, ⟨(some 30), 32, .mv (.t 31), none, []⟩])
  (.cond (.t 30)
  (.seq (.ops [⟨(some 32), 34, .faddr 1 1 (.t 1), none, []⟩, ⟨(some 33), 35, .load false 1 (.t 32), none, []⟩, ⟨(some 34), 36, .call 54 [((.t 33), 0), ((.c (.i .i64 0)), 0), ((.c (.i .i64 1)), 0)], none, []⟩, ⟨(some 35), 37, .mv (.t 34), none, []⟩, ⟨(some 36), 38, .faddr 2 1 (.t 1), (some (35, true)), []⟩, ⟨(some 37), 39, .load false 1 (.t 36), (some (35, true)), []⟩, ⟨(some 38), 40, .call 134 [((.t 37), 0)], (some (35, true)), []⟩, ⟨(some 39), 41, .pick (.t 35) (.t 38) (.c (.b false)), none, []⟩, ⟨(some 40), 42, .mv (.t 39), none, []⟩, ⟨(some 41), 43, .faddr 3 1 (.t 1), (some (40, true)), []⟩, ⟨(some 42), 44, .load false 1 (.t 41), (some (40, true)), []⟩, ⟨(some 43), 45, .call 134 [((.t 42), 0)], (some (40, true)), []⟩, ⟨(some 44), 46, .pick (.t 40) (.t 43) (.c (.b false)), none, []⟩, ⟨(some 2), 4, .mv (.t 44), none, []⟩])
  .ret)
  .skip))))))))))
  (.seq (.ops [⟨(some 2), 4, .mv (.c (.b false)), none, []⟩])
  .ret)))
theorem k120 : compCode Tryz.prog Tryz.f120.ntmps Tryz.f120.body.get! = some c120 := by kernel_rfl
theorem r120 : resTmps Tryz.prog Tryz.f120.results.toList = some [.tmp 2] := by kernel_rfl
def ValOkP (v : ValP) : Prop := (v.1 = 1 ∧ v.2.2.1 = 0 ∧ v.2.2.2 = 0) ∨ (v.1 = 2 ∧ v.2.1 = 0 ∧ v.2.2.2 = 0) ∨ (v.1 = 3 ∧ v.2.1 = 0) ∨ (v.1 = 4 ∧ (v.2.1 = 0 ∨ v.2.1 = 1) ∧ v.2.2.1 = 0 ∧ v.2.2.2 = 0)
instance (v : ValP) : Decidable (ValOkP v) := by unfold ValOkP; infer_instance
theorem w61 (v : ValP) (hv : valOkF v) : Contract Tryz.prog false 61 [.ro] [valV v] [.b (decide (ValOkP v))] [] := by
  refine mk_contract [] Tryz.func61 (c := Tryz.f61.body.get!) (by kernel_rfl) k61 r61 (of_decide_eq_true rfl) fun _ => ?_
  unfold c61; unfold valV ValOkP; simp
  by_cases k1 : v.1 = 1
  · simp [k1]
    by_cases h1 : v.2.2.1 = 0
    · refine callW_ms [.ro] ?_
      simp
      refine callX_of ((w109 _ hv.1).t h1) (by simp) ?_
      simp
      refine callW_ms [.ro] ?_
      simp
      refine callX_of (w109 _ hv.2) (by simp) ?_
      simp [h1]
    · refine callW_ms [.ro] ?_
      simp
      refine callX_of ((w109 _ hv.1).f h1) (by simp) ?_
      simp [h1]
  by_cases k2 : v.1 = 2
  · simp [k2]
    by_cases h1 : v.2.1 = 0
    · simp [h1]
      refine callW_ms [.ro] ?_
      simp
      refine callX_of (w109 _ hv.2) (by simp) ?_
      simp [h1]
    · simp [h1]
  by_cases k3 : v.1 = 3
  · simp [k3]
  by_cases k4 : v.1 = 4
  · simp [k4]
    by_cases hi : v.2.1 = 0
    · simp [hi]
      by_cases h1 : v.2.2.1 = 0
      · refine callW_ms [.ro] ?_
        simp
        refine callX_of ((w109 _ hv.1).t h1) (by simp) ?_
        simp
        refine callW_ms [.ro] ?_
        simp
        refine callX_of (w109 _ hv.2) (by simp) ?_
        simp [h1]
      · refine callW_ms [.ro] ?_
        simp
        refine callX_of ((w109 _ hv.1).f h1) (by simp) ?_
        simp [h1]
    · by_cases hi1 : v.2.1 = 1
      · simp [hi, hi1]
        by_cases h1 : v.2.2.1 = 0
        · refine callW_ms [.ro] ?_
          simp
          refine callX_of ((w109 _ hv.1).t h1) (by simp) ?_
          simp
          refine callW_ms [.ro] ?_
          simp
          refine callX_of (w109 _ hv.2) (by simp) ?_
          simp [h1]
        · refine callW_ms [.ro] ?_
          simp
          refine callX_of ((w109 _ hv.1).f h1) (by simp) ?_
          simp [h1]
      · simp [hi, hi1]
  simp [k1, k2, k3, k4]
theorem w120 (v : ValP) : Contract Tryz.prog false 120 [.ro] [valV v] [.b (decide (ValOkP v))] [] := by
  refine mk_contract [] Tryz.func120 (c := Tryz.f120.body.get!) (by kernel_rfl) k120 r120 (of_decide_eq_true rfl) fun _ => ?_
  unfold c120; unfold valV ValOkP; simp
  by_cases k1 : v.1 = 1
  · simp [k1]
    by_cases h1 : v.2.2.1 = 0
    · refine callW_ms [.ro] ?_
      simp
      refine callX_of ((w134 _).t h1) (by simp) ?_
      simp
      refine callW_ms [.ro] ?_
      simp
      refine callX_of (w134 v.2.2.2) (by simp) ?_
      simp [h1]
    · refine callW_ms [.ro] ?_
      simp
      refine callX_of ((w134 _).f h1) (by simp) ?_
      simp [h1]
  by_cases k2 : v.1 = 2
  · simp [k2]
    by_cases h1 : v.2.1 = 0
    · simp [h1]
      refine callW_ms [.ro] ?_
      simp
      refine callX_of (w134 v.2.2.2) (by simp) ?_
      simp [h1]
    · simp [h1]
  by_cases k3 : v.1 = 3
  · simp [k3]
  by_cases k4 : v.1 = 4
  · simp [k4]
    by_cases hi : 0 ≤ v.2.1 ∧ v.2.1 ≤ 1
    · have hi2 : v.2.1 = 0 ∨ v.2.1 = 1 := by omega
      refine callW_ms [.ro, .ro, .ro] ?_
      simp
      refine callX_of ((w54 v.2.1 0 1).t hi) (by simp) ?_
      simp
      by_cases h1 : v.2.2.1 = 0
      · refine callW_ms [.ro] ?_
        simp
        refine callX_of ((w134 _).t h1) (by simp) ?_
        simp
        refine callW_ms [.ro] ?_
        simp
        refine callX_of (w134 v.2.2.2) (by simp) ?_
        simp [h1, hi2]
      · refine callW_ms [.ro] ?_
        simp
        refine callX_of ((w134 _).f h1) (by simp) ?_
        simp [h1]
    · have hi2 : ¬ (v.2.1 = 0 ∨ v.2.1 = 1) := by omega
      refine callW_ms [.ro, .ro, .ro] ?_
      simp
      refine callX_of ((w54 v.2.1 0 1).f hi) (by simp) ?_
      simp [hi2]
  simp [k1, k2, k3, k4]
end Go.Proofs.YtehmdblkkpdmoaaGreatT


namespace Go.Proofs.YtehmdblkkpdmoaaGreatT
set_option linter.unusedVariables false
set_option linter.unusedSimpArgs false
open Go
def c33 : TCode := (.seq (.ops [⟨(some 2), 4, .mv (.c (.sl true 4 [])), none, []⟩])
  (.seq (.ops [⟨(some 5), 7, .mv (.t 0), none, []⟩, ⟨(some 6), 8, .len false (.t 5), none, []⟩, ⟨(some 7), 9, .mkslice 4 32 [(.i .i64 0), (.i .i64 0), (.f 0), (.f 0)] (.t 6) (.t 6), none, []⟩, ⟨(some 3), 5, .mv (.t 7), none, []⟩])
  (.seq (.seq (.ops [⟨(some 4), 6, .mv (.c (.i .i64 0)), none, []⟩])
  (.block 0 (.loop (.seq (.seq (.ops [⟨(some 8), 10, .mv (.t 4), none, []⟩, ⟨(some 9), 11, .mv (.t 0), none, []⟩, ⟨(some 10), 12, .len false (.t 9), none, []⟩, ⟨(some 11), 13, .bin .lss (.t 8) (.t 10), none, []⟩])
  (.cond (.t 11)
  .skip
  (.exit 0)))
  (.seq (.block 1 (.ops [⟨(some 14), 16, .mv (.t 3), none, []⟩, ⟨(some 15), 17, .mv (.t 4), none, []⟩, ⟨(some 16), 18, .mv (.t 0), none, []⟩, ⟨(some 17), 19, .mv (.t 4), none, []⟩, ⟨(some 18), 20, .iaddr 4 (.t 16) (.t 17), none, []⟩, ⟨(some 19), 21, .load true 4 (.t 18), none, []⟩, ⟨(some 20), 22, .call 19 [((.t 19), 0)], none, []⟩, ⟨(some 21), 23, .iaddr 4 (.t 14) (.t 15), none, []⟩, ⟨none, 1005008, .store 4 (.t 21) (.t 20), none, []⟩]))
  (.ops [⟨(some 12), 14, .mv (.t 4), none, []⟩, ⟨(some 13), 15, .bin .add (.t 12) (.c (.i .i64 1)), none, []⟩, ⟨(some 4), 6, .mv (.t 13), none, []⟩]))))))
  (.seq (.ops [⟨(some 22), 24, .mv (.t 3), none, []⟩, ⟨(some 2), 4, .mv (.t 22), none, []⟩])
  .ret))))
theorem k33 : compCode Tryz.prog Tryz.f33.ntmps Tryz.f33.body.get! = some c33 := by kernel_rfl
theorem r33 : resTmps Tryz.prog Tryz.f33.results.toList = some [.tmp 2] := by kernel_rfl
def c26 : TCode := (.seq (.ops [⟨(some 4), 6, .mv (.c (.i .i64 0)), none, []⟩])
  (.seq (.ops [⟨(some 5), 7, .mv (.t 1), none, []⟩, ⟨(some 6), 8, .mv (.t 0), none, []⟩, ⟨(some 7), 9, .len false (.t 6), none, []⟩, ⟨(some 8), 10, .bin .sub (.t 5) (.t 7), none, []⟩, ⟨(some 1), 3, .mv (.t 8), none, []⟩])
  (.seq (.seq (.ops [⟨(some 9), 11, .mv (.t 1), none, []⟩, ⟨(some 10), 12, .bin .lss (.t 9) (.c (.i .i64 0)), none, []⟩])
  (.cond (.t 10)
  (.seq (.ops [⟨(some 4), 6, .mv (.c (.i .i64 (-1))), none, []⟩])
  .ret)
  .skip))
  (.seq (.ops [⟨(some 11), 13, .mv (.t 1), none, []⟩, ⟨(some 4), 6, .mv (.t 11), none, []⟩])
  .ret))))
theorem k26 : compCode Tryz.prog Tryz.f26.ntmps Tryz.f26.body.get! = some c26 := by kernel_rfl
theorem r26 : resTmps Tryz.prog Tryz.f26.results.toList = some [.tmp 4] := by kernel_rfl
def c39 : TCode := (.seq (.ops [⟨(some 4), 6, .mv (.c (.b false)), none, []⟩])
  (.seq (.seq (.ops [⟨(some 6), 8, .mv (.t 0), none, []⟩, ⟨(some 7), 9, .len false (.t 6), none, []⟩, ⟨(some 8), 10, .mv (.t 1), none, []⟩, ⟨(some 9), 11, .len false (.t 8), none, []⟩, ⟨(some 10), 12, .bin .neq (.t 7) (.t 9), none, []⟩])
  (.cond (.t 10)
  (.seq (.ops [⟨(some 4), 6, .mv (.c (.b false)), none, []⟩])
  .ret)
  .skip))
  (.seq (.seq (.ops [⟨(some 5), 7, .mv (.c (.i .i64 0)), none, []⟩])
  (.block 0 (.loop (.seq (.seq (.ops [⟨(some 11), 13, .mv (.t 5), none, []⟩, ⟨(some 12), 14, .mv (.t 0), none, []⟩, ⟨(some 13), 15, .len false (.t 12), none, []⟩, ⟨(some 14), 16, .bin .lss (.t 11) (.t 13), none, []⟩])
  (.cond (.t 14)
  .skip
  (.exit 0)))
  (.seq (.block 1 (.seq (.draw [⟨(some 17), 19, .mv (.t 0), none, []⟩, ⟨(some 18), 20, .mv (.t 5), none, []⟩, ⟨(some 19), 21, .iaddr 4 (.t 17) (.t 18), none, []⟩, ⟨(some 20), 22, .load true 4 (.t 19), none, []⟩, ⟨(some 21), 23, .mv (.t 1), none, []⟩, ⟨(some 22), 24, .mv (.t 5), none, []⟩, ⟨(some 23), 25, .iaddr 4 (.t 21) (.t 22), none, []⟩, ⟨(some 24), 26, .load true 4 (.t 23), none, []⟩, ⟨(some 25), 27, .call 89 [((.t 20), 0), ((.t 24), 0)], none, []⟩, ⟨(some 26), 28, .un .not (.t 25), none, []⟩])
  (.cond (.t 26)
  (.seq (.ops [⟨(some 4), 6, .mv (.c (.b false)), none, []⟩])
  .ret)
  .skip)))
  (.ops [⟨(some 15), 17, .mv (.t 5), none, []⟩, ⟨(some 16), 18, .bin .add (.t 15) (.c (.i .i64 1)), none, []⟩, ⟨(some 5), 7, .mv (.t 16), none, []⟩]))))))
  (.seq (.ops [⟨(some 4), 6, .mv (.c (.b true)), none, []⟩])
  .ret))))
theorem k39 : compCode Tryz.prog Tryz.f39.ntmps Tryz.f39.body.get! = some c39 := by kernel_rfl
theorem r39 : resTmps Tryz.prog Tryz.f39.results.toList = some [.tmp 4] := by kernel_rfl
def c44 : TCode := (.seq (.ops [⟨(some 4), 6, .mv (.c (.i .i64 0)), none, []⟩])
  (.seq (.seq (.ops [⟨(some 5), 7, .mv (.c (.i .i64 0)), none, []⟩])
  (.block 0 (.loop (.seq (.seq (.ops [⟨(some 6), 8, .mv (.t 5), none, []⟩, ⟨(some 7), 9, .mv (.t 0), none, []⟩, ⟨(some 8), 10, .len false (.t 7), none, []⟩, ⟨(some 9), 11, .bin .lss (.t 6) (.t 8), none, []⟩])
  (.cond (.t 9)
  .skip
  (.exit 0)))
  (.seq (.block 1 (.seq (.ops [⟨(some 12), 14, .mv (.t 0), none, []⟩, ⟨(some 13), 15, .mv (.t 5), none, []⟩, ⟨(some 14), 16, .mv (.t 1), none, []⟩, ⟨(some 15), 17, .iaddr 4 (.t 12) (.t 13), none, []⟩, ⟨(some 16), 18, .faddr 0 1 (.t 15), none, []⟩, ⟨none, 1004005, .store 1 (.t 16) (.t 14), none, []⟩])
  (.seq (.ops [⟨(some 17), 19, .mv (.t 1), none, []⟩, ⟨(some 18), 20, .bin .add (.t 17) (.c (.i .i64 1)), none, []⟩, ⟨(some 1), 3, .mv (.t 18), none, []⟩])
  (.seq (.ops [⟨(some 19), 21, .mv (.t 0), none, []⟩, ⟨(some 20), 22, .mv (.t 5), none, []⟩, ⟨(some 21), 23, .mv (.t 1), none, []⟩, ⟨(some 22), 24, .iaddr 4 (.t 19) (.t 20), none, []⟩, ⟨(some 23), 25, .faddr 1 1 (.t 22), none, []⟩, ⟨none, 1006005, .store 1 (.t 23) (.t 21), none, []⟩])
  (.seq (.ops [⟨(some 24), 26, .mv (.t 1), none, []⟩, ⟨(some 25), 27, .bin .add (.t 24) (.c (.i .i64 1)), none, []⟩, ⟨(some 1), 3, .mv (.t 25), none, []⟩])
  (.seq (.ops [⟨(some 26), 28, .mv (.t 0), none, []⟩, ⟨(some 27), 29, .mv (.t 5), none, []⟩, ⟨(some 28), 30, .mv (.t 1), none, []⟩, ⟨(some 29), 31, .toF (.t 28), none, []⟩, ⟨(some 30), 32, .iaddr 4 (.t 26) (.t 27), none, []⟩, ⟨(some 31), 33, .faddr 2 1 (.t 30), none, []⟩, ⟨none, 1008006, .store 1 (.t 31) (.t 29), none, []⟩])
  (.seq (.ops [⟨(some 32), 34, .mv (.t 1), none, []⟩, ⟨(some 33), 35, .bin .add (.t 32) (.c (.i .i64 1)), none, []⟩, ⟨(some 1), 3, .mv (.t 33), none, []⟩])
  (.seq (.ops [⟨(some 34), 36, .mv (.t 0), none, []⟩, ⟨(some 35), 37, .mv (.t 5), none, []⟩, ⟨(some 36), 38, .mv (.t 1), none, []⟩, ⟨(some 37), 39, .toF (.t 36), none, []⟩, ⟨(some 38), 40, .iaddr 4 (.t 34) (.t 35), none, []⟩, ⟨(some 39), 41, .faddr 3 1 (.t 38), none, []⟩, ⟨none, 1010006, .store 1 (.t 39) (.t 37), none, []⟩])
  (.ops [⟨(some 40), 42, .mv (.t 1), none, []⟩, ⟨(some 41), 43, .bin .add (.t 40) (.c (.i .i64 1)), none, []⟩, ⟨(some 1), 3, .mv (.t 41), none, []⟩])))))))))
  (.ops [⟨(some 10), 12, .mv (.t 5), none, []⟩, ⟨(some 11), 13, .bin .add (.t 10) (.c (.i .i64 1)), none, []⟩, ⟨(some 5), 7, .mv (.t 11), none, []⟩]))))))
  (.seq (.ops [⟨(some 42), 44, .mv (.t 1), none, []⟩, ⟨(some 4), 6, .mv (.t 42), none, []⟩])
  .ret)))
theorem k44 : compCode Tryz.prog Tryz.f44.ntmps Tryz.f44.body.get! = some c44 := by kernel_rfl
theorem r44 : resTmps Tryz.prog Tryz.f44.results.toList = some [.tmp 4] := by kernel_rfl
def c47 : TCode := (.seq (.ops [⟨(some 4), 6, .mv (.c (.i .i64 0)), none, []⟩])
  (.seq (.seq (.ops [⟨(some 5), 7, .mv (.c (.i .i64 0)), none, []⟩])
  (.block 0 (.loop (.seq (.seq (.ops [⟨(some 6), 8, .mv (.t 5), none, []⟩, ⟨(some 7), 9, .mv (.t 0), none, []⟩, ⟨(some 8), 10, .len false (.t 7), none, []⟩, ⟨(some 9), 11, .bin .lss (.t 6) (.t 8), none, []⟩])
  (.cond (.t 9)
  .skip
  (.exit 0)))
  (.seq (.block 1 (.seq (.seq (.ops [⟨(some 12), 14, .mv (.t 0), none, []⟩, ⟨(some 13), 15, .mv (.t 5), none, []⟩, ⟨(some 14), 16, .iaddr 4 (.t 12) (.t 13), none, []⟩, ⟨(some 15), 17, .faddr 0 1 (.t 14), none, []⟩, ⟨(some 16), 18, .load false 1 (.t 15), none, []⟩, ⟨(some 17), 19, .mv (.t 1), none, []⟩, ⟨(some 18), 20, .bin .neq (.t 16) (.t 17), none, []⟩])
  (.cond (.t 18)
  (.seq (.ops [⟨(some 4), 6, .mv (.c (.i .i64 (-1))), none, []⟩])
  .ret)
  .skip))
  (.seq (.ops [⟨(some 19), 21, .mv (.t 1), none, []⟩, ⟨(some 20), 22, .bin .add (.t 19) (.c (.i .i64 1)), none, []⟩, ⟨(some 1), 3, .mv (.t 20), none, []⟩])
  (.seq (.seq (.ops [⟨(some 21), 23, .mv (.t 0), none, []⟩, ⟨(some 22), 24, .mv (.t 5), none, []⟩, ⟨(some 23), 25, .iaddr 4 (.t 21) (.t 22), none, []⟩, ⟨(some 24), 26, .faddr 1 1 (.t 23), none, []⟩, ⟨(some 25), 27, .load false 1 (.t 24), none, []⟩, ⟨(some 26), 28, .mv (.t 1), none, []⟩, ⟨(some 27), 29, .bin .neq (.t 25) (.t 26), none, []⟩])
  (.cond (.t 27)
  (.seq (.ops [⟨(some 4), 6, .mv (.c (.i .i64 (-1))), none, []⟩])
  .ret)
  .skip))
  (.seq (.ops [⟨(some 28), 30, .mv (.t 1), none, []⟩, ⟨(some 29), 31, .bin .add (.t 28) (.c (.i .i64 1)), none, []⟩, ⟨(some 1), 3, .mv (.t 29), none, []⟩])
  (.seq (.seq (.ops [⟨(some 30), 32, .mv (.t 0), none, []⟩, ⟨(some 31), 33, .mv (.t 5), none, []⟩, ⟨(some 32), 34, .iaddr 4 (.t 30) (.t 31), none, []⟩, ⟨(some 33), 35, .faddr 2 1 (.t 32), none, []⟩, ⟨(some 34), 36, .load false 1 (.t 33), none, []⟩, ⟨(some 35), 37, .mv (.t 1), none, []⟩, ⟨(some 36), 38, .toF (.t 35), none, []⟩, ⟨(some 37), 39, .bin .neq (.t 34) (.t 36), none, []⟩])
  (.cond (.t 37)
  (.seq (.ops [⟨(some 4), 6, .mv (.c (.i .i64 (-1))), none, []⟩])
  .ret)
  .skip))
  (.seq (.ops [⟨(some 38), 40, .mv (.t 1), none, []⟩, ⟨(some 39), 41, .bin .add (.t 38) (.c (.i .i64 1)), none, []⟩, ⟨(some 1), 3, .mv (.t 39), none, []⟩])
  (.seq (.seq (.ops [⟨(some 40), 42, .mv (.t 0), none, []⟩, ⟨(some 41), 43, .mv (.t 5), none, []⟩, ⟨(some 42), 44, .iaddr 4 (.t 40) (.t 41), none, []⟩, ⟨(some 43), 45, .faddr 3 1 (.t 42), none, []⟩, ⟨(some 44), 46, .load false 1 (.t 43), none, []⟩, ⟨(some 45), 47, .mv (.t 1), none, []⟩, ⟨(some 46), 48, .toF (.t 45), none, []⟩, ⟨(some 47), 49, .bin .neq (.t 44) (.t 46), none, []⟩])
  (.cond (.t 47)
  (.seq (.ops [⟨(some 4), 6, .mv (.c (.i .i64 (-1))), none, []⟩])
  .ret)
  .skip))
  (.ops [⟨(some 48), 50, .mv (.t 1), none, []⟩, ⟨(some 49), 51, .bin .add (.t 48) (.c (.i .i64 1)), none, []⟩, ⟨(some 1), 3, .mv (.t 49), none, []⟩])))))))))
  (.ops [⟨(some 10), 12, .mv (.t 5), none, []⟩, ⟨(some 11), 13, .bin .add (.t 10) (.c (.i .i64 1)), none, []⟩, ⟨(some 5), 7, .mv (.t 11), none, []⟩]))))))
  (.seq (.ops [⟨(some 50), 52, .mv (.t 1), none, []⟩, ⟨(some 4), 6, .mv (.t 50), none, []⟩])
  .ret)))
theorem k47 : compCode Tryz.prog Tryz.f47.ntmps Tryz.f47.body.get! = some c47 := by kernel_rfl
theorem r47 : resTmps Tryz.prog Tryz.f47.results.toList = some [.tmp 4] := by kernel_rfl
def c75 : TCode := (.seq (.ops [⟨(some 2), 4, .mv (.c (.sl true 4 [])), none, []⟩])
  (.seq (.ops [⟨(some 3), 5, .mv (.t 0), none, []⟩, ⟨(some 4), 6, .app 4 32 (.c (.sl true 4 [])) (.t 3), none, []⟩, ⟨(some 2), 4, .mv (.t 4), none, []⟩])
  .ret))
theorem k75 : compCode Tryz.prog Tryz.f75.ntmps Tryz.f75.body.get! = some c75 := by kernel_rfl
theorem r75 : resTmps Tryz.prog Tryz.f75.results.toList = some [.tmp 2] := by kernel_rfl
theorem w33 (l : List ValP) (hl : l.length ≤ 2^40) : Contract Tryz.prog false 33 [.ro] [.sl false 4 (l.map vT)] [.sl true 4 (l.map vT)] [] := by
  refine mk_contract [] Tryz.func33 (c := Tryz.f33.body.get!) (by kernel_rfl) k33 r33 (of_decide_eq_true rfl) fun _ => ?_
  unfold c33; simp
  refine ⟨by omega, ?_⟩
  refine twp_for l.length (fun j s => s.t 0 = .sl false 4 (l.map vT) ∧ s.t 3 = .rf [(9, 0)] 0 l.length ∧ s.t 4 = .i .i64 j ∧ s.H = lk [(1, []), (9, [.sl true 4 ((l.map vT).take j ++ List.replicate (l.length - j) [.i .i64 0, .i .i64 0, .f 0, .f 0])])]) [] (by simp) ?_ ?_
  · simp
  · rintro j s hj ⟨q0, q3, q4, qH⟩
    rw [nf_of qH]
    simp [q0, q3, q4]
    refine ⟨fun hlt => ?_, fun hge => ?_⟩
    · have hw : IntKind.i64.wrap (j + 1) = j + 1 := wrap_id (by omega) (by omega)
      obtain ⟨x, hx⟩ := get_some hlt
      have hmin : min j l.length = j := by omega
      simp [hx, hw, q0, q3, q4]
      refine callW_ms [.ro] ?_
      simp [valV]
      refine callX_of (w19 x) (by simp) ?_
      simp [valV, hw, q0, q3, q4, rep_at hlt, mapsnoc hx, hmin]
      omega
    · obtain rfl : j = l.length := by omega
      simp [q0, q3, q4]
theorem w26 (l : List ValP) (n : Int) (hl : l.length < 2^63) (hn : n < 2^62) (hn0 : 0 ≤ n) : Contract Tryz.prog false 26 [.ro, .ro] [.sl false 4 (l.map vT), .i .i64 n] [.i .i64 (szF n l.length)] [] := by
  refine mk_contract [] Tryz.func26 (c := Tryz.f26.body.get!) (by kernel_rfl) k26 r26 (of_decide_eq_true rfl) fun _ => ?_
  have hw : IntKind.i64.wrap (n - l.length) = n - l.length := wrap_id (by omega) (by omega)
  unfold c26; unfold szF; simp [hw]
  omega
theorem w39 (a : List ValP) (ha : a.length ≤ 2^40) : Contract Tryz.prog false 39 [.ro, .ro] [.sl false 4 (a.map vT), .sl false 4 (a.map vT)] [.b true] [] := by
  refine mk_contract [] Tryz.func39 (c := Tryz.f39.body.get!) (by kernel_rfl) k39 r39 (of_decide_eq_true rfl) fun _ => ?_
  unfold c39; simp
  refine twp_for a.length (fun j s => s.t 0 = .sl false 4 (a.map vT) ∧ s.t 1 = .sl false 4 (a.map vT) ∧ s.t 5 = .i .i64 j ∧ s.H = lk [(1, [])]) [] (by simp) ?_ ?_
  · simp
  · rintro j s hj ⟨q0, q1, q5, qH⟩
    rw [nf_of qH]
    simp [q0, q1, q5]
    intro hlt
    have hw : IntKind.i64.wrap (j + 1) = j + 1 := wrap_id (by omega) (by omega)
    obtain ⟨x, hx⟩ := get_some hlt
    simp [hx, hw, q0, q1, q5]
    refine callW_ms [.ro, .ro] ?_
    simp
    refine callX_of (W89r x) (by simp [valV]) ?_
    simp [hw, q0, q1, q5]
    exact hlt
def mkV (k : Int) : ValP := (k, k + 1, flI (k + 2), flI (k + 3))
theorem w44 (l : List ValP) (k : Int) (hl : l.length ≤ 2^36) (hk : 0 ≤ k) (hk2 : k ≤ 2^40) : Contract Tryz.prog false 44 [.own, .ro] [.sl true 4 (l.map vT), .i .i64 k] [.i .i64 (k + 4 * l.length)] [some (.sl true 4 ((mkL 4 mkV k l.length).map vT))] := by
  refine mk_contract [some [(1, 0)]] Tryz.func44 (c := Tryz.f44.body.get!) (by kernel_rfl) k44 r44 (of_decide_eq_true rfl) fun _ => ?_
  unfold c44; simp
  refine twp_for l.length (fun j s => s.t 0 = .rf [(1, 0)] 0 l.length ∧ s.t 1 = .i .i64 (k + 4 * j) ∧ s.t 5 = .i .i64 j ∧ s.H = lk [(1, [.sl true 4 ((mkL 4 mkV k j).map vT ++ (l.map vT).drop j)])]) [] (by simp) ?_ ?_
  · simp
  · rintro j s hj ⟨q0, q1, q5, qH⟩
    rw [nf_of qH]
    simp [q0, q1, q5]
    refine ⟨fun hlt => ?_, fun hge => ?_⟩
    · have hw : IntKind.i64.wrap (j + 1) = j + 1 := wrap_id (by omega) (by omega)
      obtain ⟨x, hx⟩ := get_some hlt
      have hw1 : IntKind.i64.wrap (k + 4 * j + 1) = k + 4 * j + 1 := wrap_id (by omega) (by omega)
      have hw2 : IntKind.i64.wrap (k + 4 * j + 1 + 1) = k + 4 * j + 2 := by rw [wrap_id (by omega) (by omega)]; omega
      have hw3 : IntKind.i64.wrap (k + 4 * j + 2 + 1) = k + 4 * j + 3 := by rw [wrap_id (by omega) (by omega)]; omega
      have hw4 : IntKind.i64.wrap (k + 4 * j + 3 + 1) = k + 4 * (j + 1) := by rw [wrap_id (by omega) (by omega)]; omega
      have hf : ∀ n, canon (FloatKind.f64.nearest n) = flI n := fun _ => rfl
      simp [hw, hw1, hw2, hw3, hw4, hf, q0, q1, q5, drop_at hx, mkV]
      omega
    · obtain rfl : j = l.length := by omega
      simp [q0, q1, q5]
theorem w47 (n : Nat) (k : Int) (hl : n ≤ 2^36) (hk : 0 ≤ k) (hk2 : k ≤ 2^40) : Contract Tryz.prog false 47 [.ro, .ro] [.sl false 4 ((mkL 4 mkV k n).map vT), .i .i64 k] [.i .i64 (k + 4 * n)] [] := by
  refine mk_contract [] Tryz.func47 (c := Tryz.f47.body.get!) (by kernel_rfl) k47 r47 (of_decide_eq_true rfl) fun _ => ?_
  unfold c47; simp
  refine twp_for n (fun j s => s.t 0 = .sl false 4 ((mkL 4 mkV k n).map vT) ∧ s.t 1 = .i .i64 (k + 4 * j) ∧ s.t 5 = .i .i64 j ∧ s.H = lk [(1, [])]) [] (by simp) ?_ ?_
  · simp
  · rintro j s hj ⟨q0, q1, q5, qH⟩
    rw [nf_of qH]
    simp [q0, q1, q5]
    refine ⟨fun hlt => ?_, fun hge => ?_⟩
    · have hw : IntKind.i64.wrap (j + 1) = j + 1 := wrap_id (by omega) (by omega)
      have hx := mkL_get 4 mkV k hlt
      have hw1 : IntKind.i64.wrap (k + 4 * j + 1) = k + 4 * j + 1 := wrap_id (by omega) (by omega)
      have hw2 : IntKind.i64.wrap (k + 4 * j + 1 + 1) = k + 4 * j + 2 := by rw [wrap_id (by omega) (by omega)]; omega
      have hw3 : IntKind.i64.wrap (k + 4 * j + 2 + 1) = k + 4 * j + 3 := by rw [wrap_id (by omega) (by omega)]; omega
      have hw4 : IntKind.i64.wrap (k + 4 * j + 3 + 1) = k + 4 * (j + 1) := by rw [wrap_id (by omega) (by omega)]; omega
      have hf : ∀ n, canon (FloatKind.f64.nearest n) = flI n := fun _ => rfl
      simp [hx, hw, hw1, hw2, hw3, hw4, hf, flI_ne, q0, q1, q5, mkV]
      omega
    · obtain rfl : j = n := by omega
      simp [q0, q1, q5]
theorem w75 (l : List ValP) (hl : l.length ≤ 2^40) : Contract Tryz.prog false 75 [.ro] [.sl false 4 (l.map vT)] [.sl true 4 (l.map vT)] [] := by
  refine mk_contract [] Tryz.func75 (c := Tryz.f75.body.get!) (by kernel_rfl) k75 r75 (of_decide_eq_true rfl) fun _ => ?_
  unfold c75; simp
  omega
end Go.Proofs.YtehmdblkkpdmoaaGreatT


namespace Go.Proofs.YtehmdblkkpdmoaaGreatT
set_option linter.unusedVariables false
set_option linter.unusedSimpArgs false
open Go
def c24 : TCode := (.seq (.ops [⟨(some 2), 4, .box 2 (.t 0), none, []⟩, ⟨(some 4), 6, .mv (.c (.i .i64 0)), none, []⟩])
  (.seq (.ops [⟨(some 5), 7, .faddr 0 1 (.t 2), none, []⟩, ⟨(some 6), 8, .load false 1 (.t 5), none, []⟩, ⟨(some 7), 9, .mv (.t 1), none, []⟩, ⟨(some 8), 10, .call 57 [((.t 6), 0), ((.t 7), 0)], none, []⟩, ⟨(some 1), 3, .mv (.t 8), none, []⟩])
  (.seq (.seq (.ops [⟨(some 9), 11, .mv (.t 1), none, []⟩, ⟨(some 10), 12, .bin .lss (.t 9) (.c (.i .i64 0)), none, []⟩])
  (.cond (.t 10)
  (.seq (.ops [⟨(some 4), 6, .mv (.c (.i .i64 (-1))), none, []⟩])
  .ret)
  .skip))
  (.seq (.ops [⟨(some 11), 13, .faddr 1 1 (.t 2), none, []⟩, ⟨(some 12), 14, .load false 1 (.t 11), none, []⟩, ⟨(some 13), 15, .mv (.t 1), none, []⟩, ⟨(some 14), 16, .call 57 [((.t 12), 0), ((.t 13), 0)], none, []⟩, ⟨(some 1), 3, .mv (.t 14), none, []⟩])
  (.seq (.seq (.ops [⟨(some 15), 17, .mv (.t 1), none, []⟩, ⟨(some 16), 18, .bin .lss (.t 15) (.c (.i .i64 0)), none, []⟩])
  (.cond (.t 16)
  (.seq (.ops [⟨(some 4), 6, .mv (.c (.i .i64 (-1))), none, []⟩])
  .ret)
  .skip))
  (.seq (.ops [⟨(some 17), 19, .mv (.t 1), none, []⟩, ⟨(some 4), 6, .mv (.t 17), none, []⟩])
  .ret))))))
theorem k24 : compCode Tryz.prog Tryz.f24.ntmps Tryz.f24.body.get! = some c24 := by kernel_rfl
theorem r24 : resTmps Tryz.prog Tryz.f24.results.toList = some [.tmp 4] := by kernel_rfl
def c31 : TCode := (.seq (.ops [⟨(some 1), 3, .box 2 (.t 0), none, []⟩, ⟨(some 2), 4, .box 2 (.c (.ag [(.sl true 1 []), (.sl true 1 [])])), none, []⟩])
  (.seq (.ops [⟨(some 3), 5, .box 2 (.c (.ag [(.sl true 1 []), (.sl true 1 [])])), none, []⟩])
  (.seq (.ops [⟨(some 4), 6, .faddr 0 1 (.t 1), none, []⟩, ⟨(some 5), 7, .load false 1 (.t 4), none, []⟩, ⟨(some 6), 8, .call 72 [((.t 5), 0)], none, []⟩, ⟨(some 7), 9, .faddr 0 1 (.t 3), none, []⟩, ⟨none, 1002004, .store 1 (.t 7) (.t 6), none, []⟩])
  (.seq (.ops [⟨(some 8), 10, .faddr 1 1 (.t 1), none, []⟩, ⟨(some 9), 11, .load false 1 (.t 8), none, []⟩, ⟨(some 10), 12, .call 72 [((.t 9), 0)], none, []⟩, ⟨(some 11), 13, .faddr 1 1 (.t 3), none, []⟩, ⟨none, 1003004, .store 1 (.t 11) (.t 10), none, []⟩])
  (.seq (.ops [⟨(some 12), 14, .load true 2 (.t 3), none, []⟩, ⟨none, 1004001, .store 2 (.t 2) (.t 12), none, []⟩])
  .ret)))))
theorem k31 : compCode Tryz.prog Tryz.f31.ntmps Tryz.f31.body.get! = some c31 := by kernel_rfl
theorem r31 : resTmps Tryz.prog Tryz.f31.results.toList = some [.cell 2 true 2] := by kernel_rfl
def c37 : TCode := (.seq (.ops [⟨(some 2), 4, .box 2 (.t 0), none, []⟩, ⟨(some 3), 5, .box 2 (.t 1), none, []⟩, ⟨(some 4), 6, .mv (.c (.b false)), none, []⟩])
  (.seq (.seq (.ops [⟨(some 5), 7, .faddr 0 1 (.t 2), none, []⟩, ⟨(some 6), 8, .load false 1 (.t 5), none, []⟩, ⟨(some 7), 9, .faddr 0 1 (.t 3), none, []⟩, ⟨(some 8), 10, .load false 1 (.t 7), none, []⟩, ⟨(some 9), 11, .call 87 [((.t 6), 0), ((.t 8), 0)], none, []⟩, ⟨(some 10), 12, .un .not (.t 9), none, []⟩])
  (.cond (.t 10)
  (.seq (.ops [⟨(some 4), 6, .mv (.c (.b false)), none, []⟩])
  .ret)
  .skip))
  (.seq (.seq (.ops [⟨(some 11), 13, .faddr 1 1 (.t 2), none, []⟩, ⟨(some 12), 14, .load false 1 (.t 11), none, []⟩, ⟨(some 13), 15, .faddr 1 1 (.t 3), none, []⟩, ⟨(some 14), 16, .load false 1 (.t 13), none, []⟩, ⟨(some 15), 17, .call 87 [((.t 12), 0), ((.t 14), 0)], none, []⟩, ⟨(some 16), 18, .un .not (.t 15), none, []⟩])
  (.cond (.t 16)
  (.seq (.ops [⟨(some 4), 6, .mv (.c (.b false)), none, []⟩])
  .ret)
  .skip))
  (.seq (.ops [⟨(some 4), 6, .mv (.c (.b true)), none, []⟩])
  .ret))))
theorem k37 : compCode Tryz.prog Tryz.f37.ntmps Tryz.f37.body.get! = some c37 := by kernel_rfl
theorem r37 : resTmps Tryz.prog Tryz.f37.results.toList = some [.tmp 4] := by kernel_rfl
def c117 : TCode := (.seq (.ops [⟨(some 1), 3, .box 2 (.t 0), none, []⟩, ⟨(some 2), 4, .mv (.c (.sl true 1 [])), none, []⟩, ⟨(some 3), 5, .mv (.c (.b false)), none, []⟩])
  (.seq (.ops [⟨(some 7), 9, .faddr 0 1 (.t 1), none, []⟩, ⟨(some 8), 10, .load false 1 (.t 7), none, []⟩, ⟨(some 9), 11, .len false (.t 8), none, []⟩, ⟨(some 10), 12, .mkslice 1 1 [(.b false)] (.t 9) (.t 9), none, []⟩, ⟨(some 4), 6, .mv (.t 10), none, []⟩])
  (.seq (.seq (.ops [⟨(some 11), 13, .faddr 1 1 (.t 1), none, []⟩, ⟨(some 12), 14, .load false 1 (.t 11), none, []⟩, ⟨(some 13), 15, .len false (.t 12), none, []⟩, ⟨(some 14), 16, .mv (.c (.i .i64 0)), none, []⟩])
  (.block 0 (.loop (.seq (.ops [⟨(some 15), 17, .bin .lss (.t 14) (.t 13), none, []⟩])
  (.seq (.cond (.t 15)
  .skip
  (.exit 0))
  (.seq (.block 1 (.seq (.ops [⟨(some 16), 18, .iaddr 1 (.t 12) (.t 14), none, []⟩, ⟨(some 17), 19, .load false 1 (.t 16), none, []⟩, ⟨(some 6), 8, .mv (.t 17), none, []⟩])
  (.seq (.seq (.ops [⟨(some 18), 20, .mv (.t 6), none, []⟩, ⟨(some 19), 21, .faddr 0 1 (.t 1), none, []⟩, ⟨(some 20), 22, .load false 1 (.t 19), none, []⟩, ⟨(some 21), 23, .len false (.t 20), none, []⟩, ⟨(some 22), 24, .bin .sub (.t 21) (.c (.i .i64 1)), none, []⟩, ⟨(some 23), 25, .call 54 [((.t 18), 0), ((.c (.i .i64 0)), 0), ((.t 22), 0)], none, []⟩, ⟨(some 24), 26, .un .not (.t 23), none, []⟩, ⟨(some 25), 27, .mv (.t 24), none, []⟩, ⟨(some 26), 28, .mv (.t 4), (some (25, false)), []⟩, ⟨(some 27), 29, .mv (.t 6), (some (25, false)), []⟩, ⟨(some 28), 30, .iaddr 1 (.t 26) (.t 27), (some (25, false)), []⟩, ⟨(some 29), 31, .load false 1 (.t 28), (some (25, false)), []⟩, ⟨(some 30), 32, .pick (.t 25) (.c (.b true)) (.t 29), none, []⟩])
  (.cond (.t 30)
  (.seq (.ops [⟨(some 2), 4, .mv (.c (.sl true 1 [])), none, []⟩, ⟨(some 3), 5, .mv (.c (.b false)), none, []⟩])
  .ret)
  .skip))
  (.ops [⟨(some 31), 33, .mv (.t 4), none, []⟩, ⟨(some 32), 34, .mv (.t 6), none, []⟩, ⟨(some 33), 35, .iaddr 1 (.t 31) (.t 32), none, []⟩, ⟨none, 1007003, .store 1 (.t 33) (.c (.b true)), none, []⟩]))))
  (.ops [⟨(some 34), 36, .bin .add (.t 14) (.c (.i .i64 1)), none, []⟩, ⟨(some 14), 16, .mv (.t 34), none, []⟩])))))))
  (.seq (.ops [⟨(some 35), 37, .mv (.t 4), none, []⟩, ⟨(some 2), 4, .mv (.t 35), none, []⟩, ⟨(some 3), 5, .mv (.c (.b true)), none, []⟩])
  .ret))))
theorem k117 : compCode Tryz.prog Tryz.f117.ntmps Tryz.f117.body.get! = some c117 := by kernel_rfl
theorem r117 : resTmps Tryz.prog Tryz.f117.results.toList = some [.tmp 2, .tmp 3] := by kernel_rfl
def c78 : TCode := (.seq (.ops [⟨(some 1), 3, .box 2 (.t 0), none, []⟩, ⟨(some 2), 4, .mv (.c (.b false)), none, []⟩])
  (.seq (.seq (.ops [⟨(some 7), 9, .faddr 0 1 (.t 1), none, []⟩, ⟨(some 8), 10, .load false 1 (.t 7), none, []⟩, ⟨(some 9), 11, .len false (.t 8), none, []⟩, ⟨(some 10), 12, .mv (.c (.i .i64 0)), none, []⟩])
  (.block 0 (.loop (.seq (.ops [⟨(some 11), 13, .bin .lss (.t 10) (.t 9), none, []⟩])
  (.seq (.cond (.t 11)
  .skip
  (.exit 0))
  (.seq (.block 1 (.seq (.ops [⟨(some 12), 14, .iaddr 1 (.t 8) (.t 10), none, []⟩, ⟨(some 13), 15, .load false 1 (.t 12), none, []⟩, ⟨(some 4), 6, .mv (.t 13), none, []⟩])
  (.seq (.ops [⟨(some 14), 16, .mv (.t 4), none, []⟩, ⟨(some 15), 17, .call 54 [((.t 14), 0), ((.c (.i .i64 0)), 0), ((.c (.i .i64 1000000)), 0)], none, []⟩, ⟨(some 16), 18, .un .not (.t 15), none, []⟩])
  (.cond (.t 16)
  (.seq (.ops [⟨(some 2), 4, .mv (.c (.b false)), none, []⟩])
  .ret)
  .skip))))
  (.ops [⟨(some 17), 19, .bin .add (.t 10) (.c (.i .i64 1)), none, []⟩, ⟨(some 10), 12, .mv (.t 17), none, []⟩])))))))
  (.seq (.ops [⟨(some 19), 21, .load true 2 (.t 1), none, []⟩, ⟨(some 20), 22, .call 117 [((.t 19), 0)], none, []⟩, ⟨(some 18), 20, .mv (.t 20), none, []⟩, ⟨(some 21), 23, .ext 0 (.t 18), none, []⟩, ⟨(some 22), 24, .ext 1 (.t 18), none, []⟩, ⟨(some 5), 7, .mv (.t 21), none, []⟩, ⟨(some 6), 8, .mv (.t 22), none, []⟩])
  (.seq (.ops [⟨(some 23), 25, .mv (.t 6), none, []⟩, ⟨(some 24), 26, .mv (.t 23), none, []⟩, ⟨(some 25), 27, .faddr 0 1 (.t 1), (some (24, true)), []⟩, ⟨(some 26), 28, .load false 1 (.t 25), (some (24, true)), []⟩, ⟨(some 27), 29, .len false (.t 26), (some (24, true)), []⟩, ⟨(some 28), 30, .bin .leq (.t 27) (.c (.i .i64 2000)), (some (24, true)), []⟩, ⟨(some 29), 31, .pick (.t 24) (.t 28) (.c (.b false)), none, []⟩, ⟨(some 2), 4, .mv (.t 29), none, []⟩])
  .ret))))
theorem k78 : compCode Tryz.prog Tryz.f78.ntmps Tryz.f78.body.get! = some c78 := by kernel_rfl
theorem r78 : resTmps Tryz.prog Tryz.f78.results.toList = some [.tmp 2] := by kernel_rfl
def c60 : TCode := (.seq (.ops [⟨(some 1), 3, .box 2 (.t 0), none, []⟩, ⟨(some 2), 4, .mv (.c (.b false)), none, []⟩])
  (.seq (.ops [⟨(some 8), 10, .faddr 0 1 (.t 1), none, []⟩, ⟨(some 9), 11, .load false 1 (.t 8), none, []⟩, ⟨(some 10), 12, .len false (.t 9), none, []⟩, ⟨(some 3), 5, .mv (.t 10), none, []⟩])
  (.seq (.seq (.ops [⟨(some 11), 13, .mv (.t 3), none, []⟩, ⟨(some 12), 14, .bin .gtr (.t 11) (.c (.i .i64 2000)), none, []⟩, ⟨(some 13), 15, .mv (.t 12), none, []⟩, ⟨(some 14), 16, .faddr 1 1 (.t 1), (some (13, false)), []⟩, ⟨(some 15), 17, .load false 1 (.t 14), (some (13, false)), []⟩, ⟨(some 16), 18, .len false (.t 15), (some (13, false)), []⟩, ⟨(some 17), 19, .mv (.t 3), (some (13, false)), []⟩, ⟨(some 18), 20, .bin .gtr (.t 16) (.t 17), (some (13, false)), []⟩, ⟨(some 19), 21, .pick (.t 13) (.c (.b true)) (.t 18), none, []⟩])
  (.cond (.t 19)
  (.seq (.ops [⟨(some 2), 4, .mv (.c (.b false)), none, []⟩])
  .ret)
  .skip))
  (.seq (.seq (.ops [⟨(some 4), 6, .mv (.c (.i .i64 0)), none, []⟩])
  (.block 0 (.loop (.seq (.seq (.ops [⟨(some 20), 22, .mv (.t 4), none, []⟩, ⟨(some 21), 23, .mv (.t 3), none, []⟩, ⟨(some 22), 24, .bin .lss (.t 20) (.t 21), none, []⟩])
  (.cond (.t 22)
  .skip
  (.exit 0)))
  (.seq (.block 1 (.seq (.ops [⟨(some 25), 27, .faddr 0 1 (.t 1), none, []⟩, ⟨(some 26), 28, .load false 1 (.t 25), none, []⟩, ⟨(some 27), 29, .mv (.t 4), none, []⟩, ⟨(some 28), 30, .iaddr 1 (.t 26) (.t 27), none, []⟩, ⟨(some 29), 31, .load false 1 (.t 28), none, []⟩, ⟨(some 30), 32, .call 52 [((.t 29), 0), ((.c (.i .i64 0)), 0), ((.c (.i .i64 1000000)), 0)], none, []⟩, ⟨(some 31), 33, .un .not (.t 30), none, []⟩])
  (.cond (.t 31)
  (.seq (.ops [⟨(some 2), 4, .mv (.c (.b false)), none, []⟩])
  .ret)
  .skip)))
  (.ops [⟨(some 23), 25, .mv (.t 4), none, []⟩, ⟨(some 24), 26, .bin .add (.t 23) (.c (.i .i64 1)), none, []⟩, ⟨(some 4), 6, .mv (.t 24), none, []⟩]))))))
  (.seq (.ops [⟨(some 32), 34, .mv (.t 3), none, []⟩, ⟨(some 33), 35, .mkslice 1 1 [(.b false)] (.t 32) (.t 32), none, []⟩, ⟨(some 5), 7, .mv (.t 33), none, []⟩])
  (.seq (.seq (.ops [⟨(some 6), 8, .mv (.c (.i .i64 0)), none, []⟩])
  (.block 2 (.loop (.seq (.seq (.ops [⟨(some 34), 36, .mv (.t 6), none, []⟩, ⟨(some 35), 37, .faddr 1 1 (.t 1), none, []⟩, ⟨(some 36), 38, .load false 1 (.t 35), none, []⟩, ⟨(some 37), 39, .len false (.t 36), none, []⟩, ⟨(some 38), 40, .bin .lss (.t 34) (.t 37), none, []⟩])
  (.cond (.t 38)
  .skip
  (.exit 2)))
  (.seq (.block 3 (.seq (.ops [⟨(some 41), 43, .faddr 1 1 (.t 1), none, []⟩, ⟨(some 42), 44, .load false 1 (.t 41), none, []⟩, ⟨(some 43), 45, .mv (.t 6), none, []⟩, ⟨(some 44), 46, .iaddr 1 (.t 42) (.t 43), none, []⟩, ⟨(some 45), 47, .load false 1 (.t 44), none, []⟩, ⟨(some 7), 9, .mv (.t 45), none, []⟩])
  (.seq (.seq (.ops [⟨(some 46), 48, .mv (.t 7), none, []⟩, ⟨(some 47), 49, .mv (.t 3), none, []⟩, ⟨(some 48), 50, .bin .sub (.t 47) (.c (.i .i64 1)), none, []⟩, ⟨(some 49), 51, .call 52 [((.t 46), 0), ((.c (.i .i64 0)), 0), ((.t 48), 0)], none, []⟩, ⟨(some 50), 52, .un .not (.t 49), none, []⟩, ⟨(some 51), 53, .mv (.t 50), none, []⟩, ⟨(some 52), 54, .mv (.t 5), (some (51, false)), []⟩, ⟨(some 53), 55, .mv (.t 7), (some (51, false)), []⟩, ⟨(some 54), 56, .iaddr 1 (.t 52) (.t 53), (some (51, false)), []⟩, ⟨(some 55), 57, .load false 1 (.t 54), (some (51, false)), []⟩, ⟨(some 56), 58, .pick (.t 51) (.c (.b true)) (.t 55), none, []⟩])
  (.cond (.t 56)
  (.seq (.ops [⟨(some 2), 4, .mv (.c (.b false)), none, []⟩])
  .ret)
  .skip))
  (.ops [⟨(some 57), 59, .mv (.t 5), none, []⟩, ⟨(some 58), 60, .mv (.t 7), none, []⟩, ⟨(some 59), 61, .iaddr 1 (.t 57) (.t 58), none, []⟩, ⟨none, 1016003, .store 1 (.t 59) (.c (.b true)), none, []⟩]))))
  (.ops [⟨(some 39), 41, .mv (.t 6), none, []⟩, ⟨(some 40), 42, .bin .add (.t 39) (.c (.i .i64 1)), none, []⟩, ⟨(some 6), 8, .mv (.t 40), none, []⟩]))))))
  (.seq (.ops [⟨(some 2), 4, .mv (.c (.b true)), none, []⟩])
  .ret)))))))
theorem k60 : compCode Tryz.prog Tryz.f60.ntmps Tryz.f60.body.get! = some c60 := by kernel_rfl
theorem r60 : resTmps Tryz.prog Tryz.f60.results.toList = some [.tmp 2] := by kernel_rfl
def entsR (g f : List Int) : TV := .ag [.sl false 1 (g.map iT), .sl false 1 (f.map iT)]
def entsO (g f : List Int) : TV := .ag [.sl true 1 (g.map iT), .sl true 1 (f.map iT)]
def szEntsF (g f : List Int) (n : Int) : Int := if szF n g.length < 0 then -1 else szF (szF n g.length) f.length
theorem w24 (g f : List Int) (n : Int) (hg : g.length < 2^63) (hf : f.length < 2^63) (hn : n < 2^62) (hn0 : 0 ≤ n) : Contract Tryz.prog false 24 [.ro, .ro] [entsR g f, .i .i64 n] [.i .i64 (szEntsF g f n)] [] := by
  refine mk_contract [] Tryz.func24 (c := Tryz.f24.body.get!) (by kernel_rfl) k24 r24 (of_decide_eq_true rfl) fun _ => ?_
  unfold c24 entsR; simp
  refine callW_ms [.ro, .ro] ?_
  simp
  refine callX_of (w57 g n hg hn hn0) (by simp) ?_
  simp
  refine ⟨fun h => ?_, fun h => ?_⟩
  · simp [szEntsF, h]
  · refine callW_ms [.ro, .ro] ?_
    simp
    have := szF_le n g.length (by omega) hn0
    refine callX_of (w57 f _ hf (by omega) h) (by simp) ?_
    simp
    refine ⟨fun h2 => ?_, fun h2 => ?_⟩
    · simp [szEntsF, szF_neg _ _ h2]; try (intro h3; omega)
    · simp [szEntsF]; try omega
theorem w31 (g f : List Int) (hg : g.length ≤ 2^40) (hf : f.length ≤ 2^40) : Contract Tryz.prog false 31 [.ro] [entsR g f] [entsO g f] [] := by
  refine mk_contract [] Tryz.func31 (c := Tryz.f31.body.get!) (by kernel_rfl) k31 r31 (of_decide_eq_true rfl) fun _ => ?_
  unfold c31 entsR entsO; simp
  refine callW_ms [.ro] ?_
  simp
  refine callX_of (w72 g hg) (by simp) ?_
  simp
  refine callW_ms [.ro] ?_
  simp
  refine callX_of (w72 f hf) (by simp) ?_
  simp
theorem w37 (g f g' f' : List Int) (hg : g.length ≤ 2^40) (hf : f.length ≤ 2^40) (hg' : g'.length ≤ 2^40) (hf' : f'.length ≤ 2^40) : Contract Tryz.prog false 37 [.ro, .ro] [entsR g f, entsR g' f'] [.b (decide (g = g' ∧ f = f'))] [] := by
  refine mk_contract [] Tryz.func37 (c := Tryz.f37.body.get!) (by kernel_rfl) k37 r37 (of_decide_eq_true rfl) fun _ => ?_
  unfold c37 entsR; simp
  refine callW_ms [.ro, .ro] ?_
  simp
  refine callX_of (w87 g g' hg hg') (by simp) ?_
  simp
  refine ⟨fun h => ?_, fun h => ?_⟩
  · refine callW_ms [.ro, .ro] ?_
    simp
    refine callX_of (w87 f f' hf hf') (by simp) ?_
    simp [h]
  · intro h2; exact absurd h2 h
def freeOk (n : Nat) (f : List Int) : Prop := (∀ x ∈ f, 0 ≤ x ∧ x < n) ∧ f.Nodup
instance (n : Nat) (f : List Int) : Decidable (freeOk n f) := by unfold freeOk; infer_instance
def freeL (n : Nat) (f : List Int) : List Bool := (List.range n).map fun (i : Nat) => decide ((i : Int) ∈ f)
@[simp] theorem freeL_len (n : Nat) (f : List Int) : (freeL n f).length = n := by simp [freeL]
theorem freeL_get {n : Nat} {f : List Int} {x : Int} (h0 : 0 ≤ x) (h1 : x < n) : (freeL n f)[x.toNat]? = some (decide (x ∈ f)) := by
  have h : x.toNat < n := by omega
  simp [freeL, h, Int.toNat_of_nonneg h0]
theorem freeL_set {n : Nat} {f : List Int} {x : Int} (h0 : 0 ≤ x) (h1 : x < n) : (freeL n f).set x.toNat true = freeL n (f ++ [x]) := by
  have h : x.toNat < n := by omega
  apply List.ext_getElem?
  intro i
  rw [List.getElem?_set]
  simp only [freeL, List.getElem?_map]
  by_cases hi : i < n
  · by_cases hx : x.toNat = i
    · subst hx; simp [h, Int.toNat_of_nonneg h0]
    · have : (i : Int) ≠ x := by omega
      simp [hx, hi, this]
  · have : ¬ x.toNat = i := by omega
    simp [hi, this]
@[simp] theorem freeL_nil (n : Nat) : freeL n [] = List.replicate n false := by
  apply List.ext_getElem?; intro i; simp [freeL, List.getElem?_replicate]; by_cases h : i < n <;> simp [h]
theorem freeOk_snoc {n : Nat} {f : List Int} {x : Int} : freeOk n (f ++ [x]) ↔ freeOk n f ∧ (0 ≤ x ∧ x < n) ∧ x ∉ f := by
  unfold freeOk
  simp only [List.mem_append, List.mem_singleton, List.nodup_append, List.nodup_cons]
  constructor
  · rintro ⟨h1, h2, _, h3⟩
    exact ⟨⟨fun y hy => h1 y (.inl hy), h2⟩, h1 x (.inr rfl), fun hx => h3 x hx x (by simp) rfl⟩
  · rintro ⟨⟨h1, h2⟩, h3, h4⟩
    refine ⟨fun y hy => ?_, h2, by simp, fun y hy z hz => ?_⟩
    · rcases hy with hy | rfl
      · exact h1 y hy
      · exact h3
    · subst hz; rintro rfl; exact h4 hy
theorem freeOk_take {n : Nat} {f : List Int} (h : freeOk n f) (j : Nat) : freeOk n (f.take j) :=
  ⟨fun x hx => h.1 x (List.mem_of_mem_take hx), h.2.sublist (List.take_sublist j f)⟩
theorem w117 (g f : List Int) (hg : g.length ≤ 2^40) (hf : f.length ≤ 2^40) : Contract Tryz.prog false 117 [.ro] [entsR g f] [.sl true 1 (if freeOk g.length f then (freeL g.length f).map bT else []), .b (decide (freeOk g.length f))] [] := by
  refine mk_contract [] Tryz.func117 (c := Tryz.f117.body.get!) (by kernel_rfl) k117 r117 (of_decide_eq_true rfl) fun _ => ?_
  unfold c117 entsR; simp
  refine ⟨by omega, ?_⟩
  refine twp_for f.length (fun j s => s.t 1 = .pt [(3, 0)] 0 0 ∧ s.t 4 = .rf [(12, 0)] 0 g.length ∧ s.t 12 = .sl false 1 (f.map iT) ∧ s.t 13 = .i .i64 f.length ∧ s.t 14 = .i .i64 j ∧ freeOk g.length (f.take j) ∧
    s.H = lk [(1, []), (3, [.po true [.sl false 1 (g.map iT), .sl false 1 (f.map iT)]]), (12, [.sl true 1 ((freeL g.length (f.take j)).map bT)])]) [] (by simp) ?_ ?_
  · simp [freeOk, bT]
  · rintro j s hj ⟨q1, q4, q12, q13, q14, hok, qH⟩
    rw [nf_of qH]
    simp [q1, q4, q12, q13, q14]
    refine ⟨fun hlt => ?_, fun hge => ?_⟩
    · obtain ⟨x, hx⟩ := get_some hlt
      have hw : IntKind.i64.wrap (j + 1) = j + 1 := wrap_id (by omega) (by omega)
      have hw2 : IntKind.i64.wrap (g.length - 1) = g.length - 1 := wrap_id (by omega) (by omega)
      have hsn := take_snoc hx
      simp [hx, hw, hw2, q1, q4, q12, q13, q14, iT]
      refine callW_ms [.ro, .ro, .ro] ?_
      simp
      by_cases hr : 0 ≤ x ∧ x ≤ (g.length : Int) - 1
      · refine callX_of ((w54 _ _ _).t hr) (by simp) ?_
        have hgt := freeL_get (n := g.length) (f := f.take j) (x := x) hr.1 (by omega)
        have hset : (List.map bT (freeL g.length (f.take j))).set x.toNat [.b true] = List.map bT (freeL g.length (f.take (j + 1))) := by
          rw [hsn, ← freeL_set hr.1 (by omega)]; simp
        have hno : x ∈ f.take j → ¬ freeOk g.length f := fun hx2 h => by
          have := freeOk_take h (j + 1); rw [hsn, freeOk_snoc] at this; exact this.2.2 hx2
        simp [q1, q4, q12, q13, q14, hr.1, hgt, hw, hset]
        refine ⟨by omega, fun hx2 => by simp [hno hx2], fun hx2 => ⟨by omega, hlt, ?_⟩⟩
        rw [hsn, freeOk_snoc]; exact ⟨hok, ⟨hr.1, by omega⟩, hx2⟩
      · refine callX_of ((w54 _ _ _).f hr) (by simp) ?_
        have hno : ¬ freeOk g.length f := fun h => by
          have := freeOk_take h (j + 1); rw [hsn, freeOk_snoc] at this; omega
        simp [hno]
    · obtain rfl : j = f.length := by omega
      simp at hok
      simp [q4, hok]
def EntsOkP (g f : List Int) : Prop := (∀ x ∈ g, 0 ≤ x ∧ x ≤ 1000000) ∧ freeOk g.length f ∧ g.length ≤ 2000
instance (g f : List Int) : Decidable (EntsOkP g f) := by unfold EntsOkP; infer_instance
theorem w78 (g f : List Int) (hg : g.length ≤ 2^40) (hf : f.length ≤ 2^40) : Contract Tryz.prog false 78 [.ro] [entsR g f] [.b (decide (EntsOkP g f))] [] := by
  refine mk_contract [] Tryz.func78 (c := Tryz.f78.body.get!) (by kernel_rfl) k78 r78 (of_decide_eq_true rfl) fun _ => ?_
  unfold c78 entsR; simp
  refine twp_for g.length (fun j s => s.t 1 = .pt [(3, 0)] 0 0 ∧ s.t 8 = .sl false 1 (g.map iT) ∧ s.t 9 = .i .i64 g.length ∧ s.t 10 = .i .i64 j ∧ (∀ x ∈ g.take j, 0 ≤ x ∧ x ≤ 1000000) ∧
    s.H = lk [(1, []), (3, [.po true [.sl false 1 (g.map iT), .sl false 1 (f.map iT)]])]) [] (by simp) ?_ ?_
  · simp
  · rintro j s hj ⟨q1, q8, q9, q10, hok, qH⟩
    rw [nf_of qH]
    simp [q1, q8, q9, q10]
    refine ⟨fun hlt => ?_, fun hge => ?_⟩
    · obtain ⟨x, hx⟩ := get_some hlt
      have hw : IntKind.i64.wrap (j + 1) = j + 1 := wrap_id (by omega) (by omega)
      simp [hx]
      refine callW_ms [.ro, .ro, .ro] ?_
      simp
      by_cases hr : 0 ≤ x ∧ x ≤ 1000000
      · refine callX_of ((w54 _ _ _).t hr) (by simp) ?_
        simp [q1, q8, q9, q10, hw, take_snoc hx]
        refine ⟨hlt, fun y hy => ?_⟩
        rcases hy with hy | rfl
        · exact hok y hy
        · exact hr
      · refine callX_of ((w54 _ _ _).f hr) (by simp) ?_
        simp
        intro h; exact absurd (h.1 x (List.mem_of_getElem? hx)) hr
    · obtain rfl : j = g.length := by omega
      simp at hok
      simp [q1]
      refine callW_ms [.ro] ?_
      simp
      refine callX_of (w117 g f hg hf) (by simp) ?_
      simp
      by_cases hok2 : freeOk g.length f
      · have hE : EntsOkP g f ↔ (g.length : Int) ≤ 2000 := ⟨fun h => by have := h.2.2; omega, fun h => ⟨hok, hok2, by omega⟩⟩
        simp [hok2, q1, hE]
      · simp [hok2, EntsOkP]
theorem len_le_of_nodup : ∀ (n : Nat) (f : List Int), (∀ x ∈ f, 0 ≤ x ∧ x < n) → f.Nodup → f.length ≤ n
  | 0, [], _, _ => by simp
  | 0, x :: f, h, _ => by have := h x (by simp); omega
  | n + 1, f, h, hn => by
    have h1 := len_le_of_nodup n (f.erase (n : Int)) (fun x hx => by
      have h2 := (hn.mem_erase_iff).1 hx
      have h3 := h x h2.2
      have : x ≠ n := h2.1
      omega) (hn.erase _)
    by_cases hm : (n : Int) ∈ f
    · rw [List.length_erase_of_mem hm] at h1; omega
    · rw [List.erase_of_not_mem hm] at h1; omega
theorem w60 (g f : List Int) (hg : g.length ≤ 2^40) (hf : f.length ≤ 2^40) : Contract Tryz.prog false 60 [.ro] [entsR g f] [.b (decide (EntsOkP g f))] [] := by
  refine mk_contract [] Tryz.func60 (c := Tryz.f60.body.get!) (by kernel_rfl) k60 r60 (of_decide_eq_true rfl) fun _ => ?_
  unfold c60 entsR; simp
  by_cases h : (2000 : Int) < g.length
  · have hE : ¬ EntsOkP g f := fun h2 => by have := h2.2.2; omega
    simp [h, hE]
  simp [h]
  refine ⟨fun h2 => ?_, fun h2 => ?_⟩
  · simp [EntsOkP]
    intro _ h3; have := len_le_of_nodup _ _ h3.1 h3.2; omega
  refine twp_for g.length (fun j s => s.t 1 = .pt [(3, 0)] 0 0 ∧ s.t 3 = .i .i64 g.length ∧ s.t 4 = .i .i64 j ∧ (∀ x ∈ g.take j, 0 ≤ x ∧ x ≤ 1000000) ∧
    s.H = lk [(1, []), (3, [.po true [.sl false 1 (g.map iT), .sl false 1 (f.map iT)]])]) [] (by simp) ?_ ?_
  · simp
  · rintro j s hj ⟨q1, q3, q4, hok, qH⟩
    rw [nf_of qH]
    simp [q1, q3, q4]
    refine ⟨fun hlt => ?_, fun hge => ?_⟩
    · obtain ⟨x, hx⟩ := get_some hlt
      have hw : IntKind.i64.wrap (j + 1) = j + 1 := wrap_id (by omega) (by omega)
      simp [hx]
      refine callW_ms [.ro, .ro, .ro] ?_
      simp
      by_cases hr : 0 ≤ x ∧ x ≤ 1000000
      · refine callX_of ((w52 _ _ _).t hr) (by simp) ?_
        simp [q1, q3, q4, hw, take_snoc hx]
        refine ⟨hlt, fun y hy => ?_⟩
        rcases hy with hy | rfl
        · exact hok y hy
        · exact hr
      · refine callX_of ((w52 _ _ _).f hr) (by simp) ?_
        simp
        intro h; exact absurd (h.1 x (List.mem_of_getElem? hx)) hr
    · obtain rfl : j = g.length := by omega
      simp at hok
      simp [q1, q3]
      refine ⟨by omega, ?_⟩
      refine twp_for f.length (fun j s => s.t 1 = .pt [(3, 0)] 0 0 ∧ s.t 3 = .i .i64 g.length ∧ s.t 5 = .rf [(35, 0)] 0 g.length ∧ s.t 6 = .i .i64 j ∧ freeOk g.length (f.take j) ∧
        s.H = lk [(1, []), (3, [.po true [.sl false 1 (g.map iT), .sl false 1 (f.map iT)]]), (35, [.sl true 1 ((freeL g.length (f.take j)).map bT)])]) [] (by simp) ?_ ?_
      · simp [q1, q3, freeOk]
      · rintro j s hj ⟨q1, q3, q5, q6, hok, qH⟩
        rw [nf_of qH]
        simp [q1, q3, q5, q6]
        refine ⟨fun hlt => ?_, fun hge => ?_⟩
        · obtain ⟨x, hx⟩ := get_some hlt
          have hw : IntKind.i64.wrap (j + 1) = j + 1 := wrap_id (by omega) (by omega)
          have hw2 : IntKind.i64.wrap (g.length - 1) = g.length - 1 := wrap_id (by omega) (by omega)
          have hsn := take_snoc hx
          simp [hx, hw2, q3]
          refine callW_ms [.ro, .ro, .ro] ?_
          simp
          by_cases hr : 0 ≤ x ∧ x ≤ (g.length : Int) - 1
          · refine callX_of ((w52 _ _ _).t hr) (by simp) ?_
            have hgt := freeL_get (n := g.length) (f := f.take j) (x := x) hr.1 (by omega)
            have hset : (List.map bT (freeL g.length (f.take j))).set x.toNat [.b true] = List.map bT (freeL g.length (f.take (j + 1))) := by
              rw [hsn, ← freeL_set hr.1 (by omega)]; simp
            have hno : x ∈ f.take j → ¬ freeOk g.length f := fun hx2 h => by
              have := freeOk_take h (j + 1); rw [hsn, freeOk_snoc] at this; exact this.2.2 hx2
            simp [q1, q3, q5, q6, hr.1, hgt, hw, hset]
            refine ⟨by omega, fun hx2 => by simp [hno hx2, EntsOkP], fun hx2 => ⟨by omega, hlt, ?_⟩⟩
            rw [hsn, freeOk_snoc]; exact ⟨hok, ⟨hr.1, by omega⟩, hx2⟩
          · refine callX_of ((w52 _ _ _).f hr) (by simp) ?_
            have hno : ¬ freeOk g.length f := fun h => by
              have := freeOk_take h (j + 1); rw [hsn, freeOk_snoc] at this; omega
            simp [hno, EntsOkP]
        · obtain rfl : j = f.length := by omega
          simp at hok
          exact ⟨by assumption, hok, by omega⟩
end Go.Proofs.YtehmdblkkpdmoaaGreatT


namespace Go.Proofs.YtehmdblkkpdmoaaGreatT
set_option linter.unusedVariables false
set_option linter.unusedSimpArgs false
open Go
end Go.Proofs.YtehmdblkkpdmoaaGreatT


namespace Go.Proofs.YtehmdblkkpdmoaaGreatT
set_option linter.unusedVariables false
set_option linter.unusedSimpArgs false
open Go
def c11 : TCode := (.seq (.ops [⟨(some 1), 3, .box 2 (.t 0), none, []⟩, ⟨(some 2), 4, .box 2 (.c (.ag [(.i .i64 0), (.i .i64 0)])), none, []⟩])
  (.seq (.ops [⟨(some 3), 5, .box 2 (.c (.ag [(.i .i64 0), (.i .i64 0)])), none, []⟩])
  (.seq (.ops [⟨(some 4), 6, .faddr 0 1 (.t 1), none, []⟩, ⟨(some 5), 7, .load false 1 (.t 4), none, []⟩, ⟨(some 6), 8, .faddr 0 1 (.t 3), none, []⟩, ⟨none, 1002003, .store 1 (.t 6) (.t 5), none, []⟩])
  (.seq (.ops [⟨(some 7), 9, .faddr 1 1 (.t 1), none, []⟩, ⟨(some 8), 10, .load false 1 (.t 7), none, []⟩, ⟨(some 9), 11, .faddr 1 1 (.t 3), none, []⟩, ⟨none, 1003003, .store 1 (.t 9) (.t 8), none, []⟩])
  (.seq (.ops [⟨(some 10), 12, .load true 2 (.t 3), none, []⟩, ⟨none, 1004001, .store 2 (.t 2) (.t 10), none, []⟩])
  .ret)))))
theorem k11 : compCode Tryz.prog Tryz.f11.ntmps Tryz.f11.body.get! = some c11 := by kernel_rfl
theorem r11 : resTmps Tryz.prog Tryz.f11.results.toList = some [.cell 2 true 2] := by kernel_rfl
def c135 : TCode := (.seq (.ops [⟨(some 2), 4, .box 2 (.t 0), none, []⟩, ⟨(some 3), 5, .box 2 (.t 1), none, []⟩, ⟨(some 4), 6, .mv (.c (.b false)), none, []⟩])
  (.seq (.seq (.ops [⟨(some 5), 7, .faddr 0 1 (.t 2), none, []⟩, ⟨(some 6), 8, .load false 1 (.t 5), none, []⟩, ⟨(some 7), 9, .faddr 0 1 (.t 3), none, []⟩, ⟨(some 8), 10, .load false 1 (.t 7), none, []⟩, ⟨(some 9), 11, .bin .neq (.t 6) (.t 8), none, []⟩])
  (.cond (.t 9)
  (.seq (.ops [⟨(some 4), 6, .mv (.c (.b false)), none, []⟩])
  .ret)
  .skip))
  (.seq (.seq (.ops [⟨(some 10), 12, .faddr 1 1 (.t 2), none, []⟩, ⟨(some 11), 13, .load false 1 (.t 10), none, []⟩, ⟨(some 12), 14, .faddr 1 1 (.t 3), none, []⟩, ⟨(some 13), 15, .load false 1 (.t 12), none, []⟩, ⟨(some 14), 16, .bin .neq (.t 11) (.t 13), none, []⟩])
  (.cond (.t 14)
  (.seq (.ops [⟨(some 4), 6, .mv (.c (.b false)), none, []⟩])
  .ret)
  .skip))
  (.seq (.ops [⟨(some 4), 6, .mv (.c (.b true)), none, []⟩])
  .ret))))
theorem k135 : compCode Tryz.prog Tryz.f135.ntmps Tryz.f135.body.get! = some c135 := by kernel_rfl
theorem r135 : resTmps Tryz.prog Tryz.f135.results.toList = some [.tmp 4] := by kernel_rfl
def c101 : TCode := (.seq (.ops [⟨(some 4), 6, .mv (.c (.i .i64 0)), none, []⟩])
  (.seq (.seq (.ops [⟨(some 6), 8, .mv (.t 0), none, []⟩, ⟨(some 7), 9, .len false (.t 6), none, []⟩, ⟨(some 8), 10, .mv (.c (.i .i64 0)), none, []⟩])
  (.block 0 (.loop (.seq (.ops [⟨(some 9), 11, .bin .lss (.t 8) (.t 7), none, []⟩])
  (.seq (.cond (.t 9)
  .skip
  (.exit 0))
  (.seq (.block 1 (.seq (.ops [⟨(some 10), 12, .mv (.t 8), none, []⟩, ⟨(some 5), 7, .mv (.t 10), none, []⟩])
  (.seq (.ops [⟨(some 11), 13, .mv (.t 1), none, []⟩, ⟨(some 12), 14, .mv (.t 0), none, []⟩, ⟨(some 13), 15, .mv (.t 5), none, []⟩, ⟨(some 14), 16, .iaddr 1 (.t 12) (.t 13), none, []⟩, ⟨(some 15), 17, .load false 1 (.t 14), none, []⟩, ⟨(some 16), 18, .bin .eql (.t 11) (.t 15), none, []⟩])
  (.cond (.t 16)
  (.seq (.ops [⟨(some 17), 19, .mv (.t 5), none, []⟩, ⟨(some 4), 6, .mv (.t 17), none, []⟩])
  .ret)
  .skip))))
  (.ops [⟨(some 18), 20, .bin .add (.t 8) (.c (.i .i64 1)), none, []⟩, ⟨(some 8), 10, .mv (.t 18), none, []⟩])))))))
  (.seq (.ops [⟨(some 4), 6, .mv (.c (.i .i64 (-1))), none, []⟩])
  .ret)))
theorem k101 : compCode Tryz.prog Tryz.f101.ntmps Tryz.f101.body.get! = some c101 := by kernel_rfl
theorem r101 : resTmps Tryz.prog Tryz.f101.results.toList = some [.tmp 4] := by kernel_rfl
def c121 : TCode := (.seq (.ops [⟨(some 4), 6, .mv (.c (.b false)), none, []⟩])
  (.seq (.ops [⟨(some 5), 7, .mv (.t 0), none, []⟩, ⟨(some 6), 8, .mv (.t 1), none, []⟩, ⟨(some 7), 9, .call 101 [((.t 5), 0), ((.t 6), 0)], none, []⟩, ⟨(some 8), 10, .bin .geq (.t 7) (.c (.i .i64 0)), none, []⟩, ⟨(some 4), 6, .mv (.t 8), none, []⟩])
  .ret))
theorem k121 : compCode Tryz.prog Tryz.f121.ntmps Tryz.f121.body.get! = some c121 := by kernel_rfl
theorem r121 : resTmps Tryz.prog Tryz.f121.results.toList = some [.tmp 4] := by kernel_rfl
def c67 : TCode := (.seq (.ops [⟨(some 2), 4, .box 2 (.t 0), none, []⟩, ⟨(some 3), 5, .box 2 (.t 1), none, []⟩, ⟨(some 4), 6, .mv (.c (.b false)), none, []⟩])
  (.seq (.seq (.draw [⟨(some 6), 8, .faddr 0 1 (.t 3), none, []⟩, ⟨(some 7), 9, .load false 1 (.t 6), none, []⟩, ⟨(some 8), 10, .faddr 0 1 (.t 2), none, []⟩, ⟨(some 9), 11, .load false 1 (.t 8), none, []⟩, ⟨(some 10), 12, .len false (.t 9), none, []⟩, ⟨(some 11), 13, .bin .sub (.t 10) (.c (.i .i64 1)), none, []⟩, ⟨(some 12), 14, .call 52 [((.t 7), 0), ((.c (.i .i64 0)), 0), ((.t 11), 0)], none, []⟩, ⟨(some 13), 15, .un .not (.t 12), none, []⟩, ⟨(some 14), 16, .mv (.t 13), none, []⟩, ⟨(some 15), 17, .faddr 0 1 (.t 2), (some (14, false)), []⟩, ⟨(some 16), 18, .load false 1 (.t 15), (some (14, false)), []⟩, ⟨(some 17), 19, .faddr 0 1 (.t 3), (some (14, false)), []⟩, ⟨(some 18), 20, .load false 1 (.t 17), (some (14, false)), []⟩, ⟨(some 19), 21, .iaddr 1 (.t 16) (.t 18), (some (14, false)), []⟩, ⟨(some 20), 22, .load false 1 (.t 19), (some (14, false)), []⟩, ⟨(some 21), 23, .faddr 1 1 (.t 3), (some (14, false)), []⟩, ⟨(some 22), 24, .load false 1 (.t 21), (some (14, false)), []⟩, ⟨(some 23), 25, .bin .neq (.t 20) (.t 22), (some (14, false)), []⟩, ⟨(some 24), 26, .pick (.t 14) (.c (.b true)) (.t 23), none, []⟩])
  (.cond (.t 24)
  (.seq (.ops [⟨(some 4), 6, .mv (.c (.b false)), none, []⟩])
  .ret)
  .skip))
  (.seq (.seq (.ops [⟨(some 5), 7, .mv (.c (.i .i64 0)), none, []⟩])
  (.block 0 (.loop (.seq (.seq (.ops [⟨(some 25), 27, .mv (.t 5), none, []⟩, ⟨(some 26), 28, .faddr 1 1 (.t 2), none, []⟩, ⟨(some 27), 29, .load false 1 (.t 26), none, []⟩, ⟨(some 28), 30, .len false (.t 27), none, []⟩, ⟨(some 29), 31, .bin .lss (.t 25) (.t 28), none, []⟩])
  (.cond (.t 29)
  .skip
  (.exit 0)))
  (.seq (.block 1 (.seq (.draw [⟨(some 32), 34, .faddr 1 1 (.t 2), none, []⟩, ⟨(some 33), 35, .load false 1 (.t 32), none, []⟩, ⟨(some 34), 36, .mv (.t 5), none, []⟩, ⟨(some 35), 37, .iaddr 1 (.t 33) (.t 34), none, []⟩, ⟨(some 36), 38, .load false 1 (.t 35), none, []⟩, ⟨(some 37), 39, .faddr 0 1 (.t 3), none, []⟩, ⟨(some 38), 40, .load false 1 (.t 37), none, []⟩, ⟨(some 39), 41, .bin .eql (.t 36) (.t 38), none, []⟩])
  (.cond (.t 39)
  (.seq (.ops [⟨(some 4), 6, .mv (.c (.b false)), none, []⟩])
  .ret)
  .skip)))
  (.ops [⟨(some 30), 32, .mv (.t 5), none, []⟩, ⟨(some 31), 33, .bin .add (.t 30) (.c (.i .i64 1)), none, []⟩, ⟨(some 5), 7, .mv (.t 31), none, []⟩]))))))
  (.seq (.ops [⟨(some 4), 6, .mv (.c (.b true)), none, []⟩])
  .ret))))
theorem k67 : compCode Tryz.prog Tryz.f67.ntmps Tryz.f67.body.get! = some c67 := by kernel_rfl
theorem r67 : resTmps Tryz.prog Tryz.f67.results.toList = some [.tmp 4] := by kernel_rfl
def c83 : TCode := (.seq (.ops [⟨(some 3), 5, .box 2 (.t 1), none, []⟩, ⟨(some 4), 6, .mv (.c (.b false)), none, []⟩])
  (.seq (.draw [⟨(some 5), 7, .faddr 0 1 (.t 3), none, []⟩, ⟨(some 6), 8, .load false 1 (.t 5), none, []⟩, ⟨(some 7), 9, .mv (.t 0), none, []⟩, ⟨(some 8), 10, .nilck (.t 7), none, []⟩, ⟨(some 9), 11, .faddr 0 1 (.t 8), none, []⟩, ⟨(some 10), 12, .load false 1 (.t 9), none, []⟩, ⟨(some 11), 13, .len false (.t 10), none, []⟩, ⟨(some 12), 14, .bin .sub (.t 11) (.c (.i .i64 1)), none, []⟩, ⟨(some 13), 15, .call 54 [((.t 6), 0), ((.c (.i .i64 0)), 0), ((.t 12), 0)], none, []⟩, ⟨(some 14), 16, .mv (.t 13), none, []⟩, ⟨(some 15), 17, .mv (.t 0), (some (14, true)), []⟩, ⟨(some 16), 18, .nilck (.t 15), (some (14, true)), []⟩, ⟨(some 17), 19, .faddr 0 1 (.t 16), (some (14, true)), []⟩, ⟨(some 18), 20, .load false 1 (.t 17), (some (14, true)), []⟩, ⟨(some 19), 21, .faddr 0 1 (.t 3), (some (14, true)), []⟩, ⟨(some 20), 22, .load false 1 (.t 19), (some (14, true)), []⟩, ⟨(some 21), 23, .iaddr 1 (.t 18) (.t 20), (some (14, true)), []⟩, ⟨(some 22), 24, .load false 1 (.t 21), (some (14, true)), []⟩, ⟨(some 23), 25, .faddr 1 1 (.t 3), (some (14, true)), []⟩, ⟨(some 24), 26, .load false 1 (.t 23), (some (14, true)), []⟩, ⟨(some 25), 27, .bin .eql (.t 22) (.t 24), (some (14, true)), []⟩, ⟨(some 26), 28, .pick (.t 14) (.t 25) (.c (.b false)), none, []⟩, ⟨(some 27), 29, .mv (.t 26), none, []⟩, ⟨(some 28), 30, .mv (.t 0), (some (27, true)), []⟩, ⟨(some 29), 31, .nilck (.t 28), (some (27, true)), []⟩, ⟨(some 30), 32, .faddr 1 1 (.t 29), (some (27, true)), []⟩, ⟨(some 31), 33, .load false 1 (.t 30), (some (27, true)), []⟩, ⟨(some 32), 34, .faddr 0 1 (.t 3), (some (27, true)), []⟩, ⟨(some 33), 35, .load false 1 (.t 32), (some (27, true)), []⟩, ⟨(some 34), 36, .call 121 [((.t 31), 0), ((.t 33), 0)], (some (27, true)), []⟩, ⟨(some 35), 37, .un .not (.t 34), (some (27, true)), []⟩, ⟨(some 36), 38, .pick (.t 27) (.t 35) (.c (.b false)), none, []⟩, ⟨(some 4), 6, .mv (.t 36), none, []⟩])
  .ret))
theorem k83 : compCode Tryz.prog Tryz.f83.ntmps Tryz.f83.body.get! = some c83 := by kernel_rfl
theorem r83 : resTmps Tryz.prog Tryz.f83.results.toList = some [.tmp 4] := by kernel_rfl
def entT (x y : Int) : TV := .ag [.i .i64 x, .i .i64 y]
theorem w11 (x y : Int) : Contract Tryz.prog false 11 [.ro] [entT x y] [entT x y] [] := by
  refine mk_contract [] Tryz.func11 (c := Tryz.f11.body.get!) (by kernel_rfl) k11 r11 (of_decide_eq_true rfl) fun _ => ?_
  unfold c11 entT; simp
theorem w135 (x y x' y' : Int) : Contract Tryz.prog false 135 [.ro, .ro] [entT x y, entT x' y'] [.b (decide (x = x' ∧ y = y'))] [] := by
  refine mk_contract [] Tryz.func135 (c := Tryz.f135.body.get!) (by kernel_rfl) k135 r135 (of_decide_eq_true rfl) fun _ => ?_
  unfold c135 entT; simp
  refine ⟨fun h => ⟨fun h2 => ⟨h, h2⟩, fun h2 _ => h2⟩, fun h h2 => absurd h2 h⟩
def idxF (l : List Int) (x : Int) : Int := if x ∈ l then (l.idxOf x : Int) else -1
theorem idxF_at {l : List Int} {x : Int} {j : Nat} (h : l[j]? = some x) (hn : x ∉ l.take j) : idxF l x = j := by
  have hm := List.mem_of_getElem? h
  have hj := (List.getElem?_eq_some_iff.1 h).1
  have hl : l = l.take j ++ x :: l.drop (j + 1) := by
    have := (List.getElem?_eq_some_iff.1 h).2
    rw [← this, ← List.drop_eq_getElem_cons hj, List.take_append_drop]
  unfold idxF
  rw [if_pos hm]
  have : l.idxOf x = j := by
    rw [hl, List.idxOf_append, if_neg hn]
    simp [Nat.min_eq_left (Nat.le_of_lt hj)]
  rw [this]
theorem idxF_ge (l : List Int) (x : Int) : 0 ≤ idxF l x ↔ x ∈ l := by
  unfold idxF; split
  · rename_i h; exact ⟨fun _ => h, fun _ => by omega⟩
  · rename_i h; exact ⟨fun h2 => by omega, fun h2 => absurd h2 h⟩
theorem w101 (l : List Int) (x : Int) (hl : l.length ≤ 2^40) : Contract Tryz.prog false 101 [.ro, .ro] [.sl false 1 (l.map iT), .i .i64 x] [.i .i64 (idxF l x)] [] := by
  refine mk_contract [] Tryz.func101 (c := Tryz.f101.body.get!) (by kernel_rfl) k101 r101 (of_decide_eq_true rfl) fun _ => ?_
  unfold c101; simp
  refine twp_for l.length (fun j s => s.t 0 = .sl false 1 (l.map iT) ∧ s.t 1 = .i .i64 x ∧ s.t 7 = .i .i64 l.length ∧ s.t 8 = .i .i64 j ∧ x ∉ l.take j ∧ s.H = lk [(1, [])]) [] (by simp) ?_ ?_
  · simp
  · rintro j s hj ⟨q0, q1, q7, q8, hn, qH⟩
    rw [nf_of qH]
    simp [q0, q1, q7, q8]
    refine ⟨fun hlt => ?_, fun hge => ?_⟩
    · have hw : IntKind.i64.wrap (j + 1) = j + 1 := wrap_id (by omega) (by omega)
      obtain ⟨y, hy⟩ := get_some hlt
      simp [hy, hw, q0, q1, q7, q8]
      refine ⟨fun hxy => ?_, fun hxy => ⟨hlt, ?_⟩⟩
      · subst hxy; exact (idxF_at hy hn).symm
      · rw [take_snoc hy]; simp; exact ⟨hn, hxy⟩
    · obtain rfl : j = l.length := by omega
      rw [List.take_of_length_le (Nat.le_refl _)] at hn
      simp [idxF, hn]
theorem w121 (l : List Int) (x : Int) (hl : l.length ≤ 2^40) : Contract Tryz.prog false 121 [.ro, .ro] [.sl false 1 (l.map iT), .i .i64 x] [.b (decide (x ∈ l))] [] := by
  refine mk_contract [] Tryz.func121 (c := Tryz.f121.body.get!) (by kernel_rfl) k121 r121 (of_decide_eq_true rfl) fun _ => ?_
  unfold c121; simp
  refine callW_ms [.ro, .ro] ?_
  simp
  refine callX_of (w101 l x hl) (by simp) ?_
  simp [idxF_ge]
def liveP (g f : List Int) (x y : Int) : Prop := (0 ≤ x ∧ x ≤ (g.length : Int) - 1) ∧ g[x.toNat]? = some y ∧ x ∉ f
instance (g f : List Int) (x y : Int) : Decidable (liveP g f x y) := by unfold liveP; infer_instance
theorem w67 (g f : List Int) (x y : Int) (hg : g.length ≤ 2^40) (hf : f.length ≤ 2^40) : Contract Tryz.prog false 67 [.ro, .ro] [entsR g f, entT x y] [.b (decide (liveP g f x y))] [] := by
  refine mk_contract [] Tryz.func67 (c := Tryz.f67.body.get!) (by kernel_rfl) k67 r67 (of_decide_eq_true rfl) fun _ => ?_
  have hw2 : IntKind.i64.wrap (g.length - 1) = g.length - 1 := wrap_id (by omega) (by omega)
  unfold c67 entT entsR; simp [hw2]
  refine callW_ms [.ro, .ro, .ro] ?_
  simp
  by_cases hr : 0 ≤ x ∧ x ≤ (g.length : Int) - 1
  · refine callX_of ((w52 _ _ _).t hr) (by simp) ?_
    obtain ⟨z, hz⟩ := get_some (l := g) (j := x.toNat) (by omega)
    by_cases hzy : z = y
    · subst hzy
      simp [hr.1, hz]
      refine twp_for f.length (fun j s => s.t 2 = .pt [(4, 0)] 0 0 ∧ s.t 3 = .pt [(5, 0)] 0 0 ∧ s.t 5 = .i .i64 j ∧ x ∉ f.take j ∧
        s.H = lk [(1, []), (4, [.po true [.sl false 1 (g.map iT), .sl false 1 (f.map iT)]]), (5, [.po true [.i .i64 x, .i .i64 z]])]) [] (by simp) ?_ ?_
      · simp
      · rintro j s hj ⟨q2, q3, q5, hn, qH⟩
        rw [nf_of qH]
        simp [q2, q3, q5]
        refine ⟨fun hlt => ?_, fun hge => ?_⟩
        · have hw : IntKind.i64.wrap (j + 1) = j + 1 := wrap_id (by omega) (by omega)
          obtain ⟨u, hu⟩ := get_some hlt
          simp [hu, hw, q2, q3, q5]
          refine ⟨fun hux => ?_, fun hux => ⟨hlt, ?_⟩⟩
          · subst hux
            intro h; exact h.2.2 (List.mem_of_getElem? hu)
          · rw [take_snoc hu]; simp; exact ⟨hn, fun h => hux h.symm⟩
        · obtain rfl : j = f.length := by omega
          rw [List.take_of_length_le (Nat.le_refl _)] at hn
          exact ⟨hr, hz, hn⟩
    · have : ¬ liveP g f x y := fun h => by have := h.2.1; rw [hz] at this; cases this; exact hzy rfl
      simp [hr.1, hz, hzy, this]
  · refine callX_of ((w52 _ _ _).f hr) (by simp) ?_
    have : ¬ liveP g f x y := fun h => hr h.1
    simp [this]
end Go.Proofs.YtehmdblkkpdmoaaGreatT


namespace Go.Proofs.YtehmdblkkpdmoaaGreatT
set_option linter.unusedVariables false
set_option linter.unusedSimpArgs false
open Go
def c65 : TCode := (.seq (.ops [⟨(some 1), 3, .box 2 (.t 0), none, []⟩, ⟨(some 2), 4, .box 2 (.c (.ag [(.sl true 1 []), (.sl true 1 [])])), none, []⟩])
  (.seq (.draw [⟨(some 3), 5, .bslice 1 0 [(.i .i64 0)] [], none, []⟩, ⟨(some 4), 6, .faddr 0 1 (.t 1), none, [0]⟩, ⟨(some 5), 7, .load false 1 (.t 4), none, [0]⟩, ⟨(some 6), 8, .app 1 8 (.t 3) (.t 5), none, []⟩, ⟨(some 7), 9, .bslice 1 0 [(.i .i64 0)] [], none, [0, 1, 2, 3]⟩, ⟨(some 8), 10, .faddr 1 1 (.t 1), none, [0, 3, 4]⟩, ⟨(some 9), 11, .load false 1 (.t 8), none, [0, 3, 4]⟩, ⟨(some 10), 12, .app 1 8 (.t 7) (.t 9), none, []⟩, ⟨(some 11), 13, .build [(.sl true 1 []), (.sl true 1 [])] [(0, 1, (.t 6)), (1, 1, (.t 10))], none, []⟩, ⟨none, 1001009, .store 2 (.t 2) (.t 11), none, []⟩])
  .ret))
theorem k65 : compCode Tryz.prog Tryz.f65.ntmps Tryz.f65.body.get! = some c65 := by kernel_rfl
theorem r65 : resTmps Tryz.prog Tryz.f65.results.toList = some [.cell 2 true 2] := by kernel_rfl
def c74 : TCode := (.seq (.ops [⟨(some 1), 3, .box 2 (.t 0), none, []⟩, ⟨(some 2), 4, .box 2 (.c (.ag [(.sl true 1 []), (.sl true 1 [])])), none, []⟩])
  (.seq (.draw [⟨(some 3), 5, .faddr 0 1 (.t 1), none, []⟩, ⟨(some 4), 6, .load false 1 (.t 3), none, []⟩, ⟨(some 5), 7, .call 113 [((.t 4), 0)], none, []⟩, ⟨(some 6), 8, .faddr 1 1 (.t 1), none, [2]⟩, ⟨(some 7), 9, .load false 1 (.t 6), none, [2]⟩, ⟨(some 8), 10, .call 113 [((.t 7), 0)], none, []⟩, ⟨(some 9), 11, .build [(.sl true 1 []), (.sl true 1 [])] [(0, 1, (.t 5)), (1, 1, (.t 8))], none, []⟩, ⟨none, 1001007, .store 2 (.t 2) (.t 9), none, []⟩])
  .ret))
theorem k74 : compCode Tryz.prog Tryz.f74.ntmps Tryz.f74.body.get! = some c74 := by kernel_rfl
theorem r74 : resTmps Tryz.prog Tryz.f74.results.toList = some [.cell 2 true 2] := by kernel_rfl
def c42 : TCode := (.seq (.ops [⟨(some 2), 4, .box 2 (.t 0), none, []⟩, ⟨(some 4), 6, .mv (.c (.i .i64 0)), none, []⟩])
  (.seq (.ops [⟨(some 5), 7, .faddr 0 1 (.t 2), none, []⟩, ⟨(some 6), 8, .load false 1 (.t 5), none, []⟩, ⟨(some 7), 9, .mv (.t 1), none, []⟩, ⟨(some 8), 10, .call 92 [((.t 6), 0), ((.t 7), 0)], none, []⟩, ⟨(some 1), 3, .mv (.t 8), none, []⟩])
  (.seq (.ops [⟨(some 9), 11, .faddr 1 1 (.t 2), none, []⟩, ⟨(some 10), 12, .load false 1 (.t 9), none, []⟩, ⟨(some 11), 13, .mv (.t 1), none, []⟩, ⟨(some 12), 14, .call 92 [((.t 10), 0), ((.t 11), 0)], none, []⟩, ⟨(some 1), 3, .mv (.t 12), none, []⟩])
  (.seq (.ops [⟨(some 13), 15, .mv (.t 1), none, []⟩, ⟨(some 4), 6, .mv (.t 13), none, []⟩])
  .ret))))
theorem k42 : compCode Tryz.prog Tryz.f42.ntmps Tryz.f42.body.get! = some c42 := by kernel_rfl
theorem r42 : resTmps Tryz.prog Tryz.f42.results.toList = some [.tmp 4] := by kernel_rfl
def c45 : TCode := (.seq (.ops [⟨(some 2), 4, .box 2 (.t 0), none, []⟩, ⟨(some 4), 6, .mv (.c (.i .i64 0)), none, []⟩])
  (.seq (.ops [⟨(some 5), 7, .faddr 0 1 (.t 2), none, []⟩, ⟨(some 6), 8, .load false 1 (.t 5), none, []⟩, ⟨(some 7), 9, .mv (.t 1), none, []⟩, ⟨(some 8), 10, .call 95 [((.t 6), 0), ((.t 7), 0)], none, []⟩, ⟨(some 1), 3, .mv (.t 8), none, []⟩])
  (.seq (.seq (.ops [⟨(some 9), 11, .mv (.t 1), none, []⟩, ⟨(some 10), 12, .bin .lss (.t 9) (.c (.i .i64 0)), none, []⟩])
  (.cond (.t 10)
  (.seq (.ops [⟨(some 4), 6, .mv (.c (.i .i64 (-1))), none, []⟩])
  .ret)
  .skip))
  (.seq (.ops [⟨(some 11), 13, .faddr 1 1 (.t 2), none, []⟩, ⟨(some 12), 14, .load false 1 (.t 11), none, []⟩, ⟨(some 13), 15, .mv (.t 1), none, []⟩, ⟨(some 14), 16, .call 95 [((.t 12), 0), ((.t 13), 0)], none, []⟩, ⟨(some 1), 3, .mv (.t 14), none, []⟩])
  (.seq (.seq (.ops [⟨(some 15), 17, .mv (.t 1), none, []⟩, ⟨(some 16), 18, .bin .lss (.t 15) (.c (.i .i64 0)), none, []⟩])
  (.cond (.t 16)
  (.seq (.ops [⟨(some 4), 6, .mv (.c (.i .i64 (-1))), none, []⟩])
  .ret)
  .skip))
  (.seq (.ops [⟨(some 17), 19, .mv (.t 1), none, []⟩, ⟨(some 4), 6, .mv (.t 17), none, []⟩])
  .ret))))))
theorem k45 : compCode Tryz.prog Tryz.f45.ntmps Tryz.f45.body.get! = some c45 := by kernel_rfl
theorem r45 : resTmps Tryz.prog Tryz.f45.results.toList = some [.tmp 4] := by kernel_rfl
theorem w65 (g f : List Int) (hg : g.length ≤ 2^40) (hf : f.length ≤ 2^40) : Contract Tryz.prog false 65 [.ro] [entsR g f] [entsO g f] [] := by
  refine mk_contract [] Tryz.func65 (c := Tryz.f65.body.get!) (by kernel_rfl) k65 r65 (of_decide_eq_true rfl) fun _ => ?_
  unfold c65 entsR entsO; simp
  omega
theorem w74 (g f : List Int) (hg : g.length ≤ 2^40) (hf : f.length ≤ 2^40) : Contract Tryz.prog false 74 [.ro] [entsR g f] [entsO g f] [] := by
  refine mk_contract [] Tryz.func74 (c := Tryz.f74.body.get!) (by kernel_rfl) k74 r74 (of_decide_eq_true rfl) fun _ => ?_
  unfold c74 entsR entsO; simp
  refine callW_ms [.ro] ?_
  simp
  refine callX_of (w113 g hg) (by simp) ?_
  simp
  refine callW_ms [.ro] ?_
  simp
  refine callX_of (w113 f hf) (by simp) ?_
  simp
theorem w42 (g f : List Int) (k : Int) (hg : g.length ≤ 2^30) (hf : f.length ≤ 2^30) (hk : 0 ≤ k) (hk2 : k ≤ 2^39) : Contract Tryz.prog false 42 [.own, .ro] [entsO g f, .i .i64 k] [.i .i64 (k + g.length + f.length)] [some (.sl true 1 ((cnt k g.length).map iT)), some (.sl true 1 ((cnt (k + g.length) f.length).map iT))] := by
  refine mk_contract [some [(4, 0), (0, 0)], some [(4, 0), (0, 1)]] Tryz.func42 (c := Tryz.f42.body.get!) (by kernel_rfl) k42 r42 (of_decide_eq_true rfl) fun _ => ?_
  unfold c42; unfold entsO; simp
  refine callW_ms [.own, .ro] ?_
  simp
  refine callX_of (w92 g k (by omega) (by omega) (by omega)) (by simp) ?_
  simp
  refine callW_ms [.own, .ro] ?_
  simp
  refine callX_of (w92 f _ (by omega) (by omega) (by omega)) (by simp) ?_
  simp
theorem W95 (n : Nat) (k : Int) (hl : n ≤ 2^40) (hk : 0 ≤ k) (hk2 : k ≤ 2^40) : Contract Tryz.prog false 95 [.ro, .ro] [.sl false 1 ((cnt k n).map iT), .i .i64 k] [.i .i64 (k + n)] [] := by
  simpa using w95 (cnt k n) k (by simpa using hl) hk hk2
theorem w45 (n m : Nat) (k : Int) (hg : n ≤ 2^30) (hf : m ≤ 2^30) (hk : 0 ≤ k) (hk2 : k ≤ 2^39) : Contract Tryz.prog false 45 [.ro, .ro] [entsR (cnt k n) (cnt (k + n) m), .i .i64 k] [.i .i64 (k + n + m)] [] := by
  refine mk_contract [] Tryz.func45 (c := Tryz.f45.body.get!) (by kernel_rfl) k45 r45 (of_decide_eq_true rfl) fun _ => ?_
  unfold c45; unfold entsR; simp
  refine callW_ms [.ro, .ro] ?_
  simp
  refine callX_of (W95 n k (by omega) (by omega) (by omega)) (by simp) ?_
  simp
  refine ⟨by omega, fun _ => ?_⟩
  refine callW_ms [.ro, .ro] ?_
  simp
  refine callX_of (W95 m _ (by omega) (by omega) (by omega)) (by simp) ?_
  simp
  omega
end Go.Proofs.YtehmdblkkpdmoaaGreatT


namespace Go.Proofs.YtehmdblkkpdmoaaGreatT
set_option linter.unusedVariables false
set_option linter.unusedSimpArgs false
open Go
def c123 : TCode := (.seq (.ops [⟨(some 4), 6, .mv (.c (.b false)), none, []⟩])
  (.seq (.seq (.ops [⟨(some 6), 8, .mv (.t 0), none, []⟩, ⟨(some 7), 9, .len false (.t 6), none, []⟩, ⟨(some 8), 10, .mv (.t 1), none, []⟩, ⟨(some 9), 11, .len false (.t 8), none, []⟩, ⟨(some 10), 12, .bin .neq (.t 7) (.t 9), none, []⟩])
  (.cond (.t 10)
  (.seq (.ops [⟨(some 4), 6, .mv (.c (.b false)), none, []⟩])
  .ret)
  .skip))
  (.seq (.seq (.ops [⟨(some 5), 7, .mv (.c (.i .i64 0)), none, []⟩])
  (.block 0 (.loop (.seq (.seq (.ops [⟨(some 11), 13, .mv (.t 5), none, []⟩, ⟨(some 12), 14, .mv (.t 0), none, []⟩, ⟨(some 13), 15, .len false (.t 12), none, []⟩, ⟨(some 14), 16, .bin .lss (.t 11) (.t 13), none, []⟩])
  (.cond (.t 14)
  .skip
  (.exit 0)))
  (.seq (.block 1 (.seq (.draw [⟨(some 17), 19, .mv (.t 0), none, []⟩, ⟨(some 18), 20, .mv (.t 5), none, []⟩, ⟨(some 19), 21, .iaddr 2 (.t 17) (.t 18), none, []⟩, ⟨(some 20), 22, .load true 2 (.t 19), none, []⟩, ⟨(some 21), 23, .mv (.t 1), none, []⟩, ⟨(some 22), 24, .mv (.t 5), none, []⟩, ⟨(some 23), 25, .iaddr 2 (.t 21) (.t 22), none, []⟩, ⟨(some 24), 26, .load true 2 (.t 23), none, []⟩, ⟨(some 25), 27, .call 135 [((.t 20), 0), ((.t 24), 0)], none, []⟩, ⟨(some 26), 28, .un .not (.t 25), none, []⟩])
  (.cond (.t 26)
  (.seq (.ops [⟨(some 4), 6, .mv (.c (.b false)), none, []⟩])
  .ret)
  .skip)))
  (.ops [⟨(some 15), 17, .mv (.t 5), none, []⟩, ⟨(some 16), 18, .bin .add (.t 15) (.c (.i .i64 1)), none, []⟩, ⟨(some 5), 7, .mv (.t 16), none, []⟩]))))))
  (.seq (.ops [⟨(some 4), 6, .mv (.c (.b true)), none, []⟩])
  .ret))))
theorem k123 : compCode Tryz.prog Tryz.f123.ntmps Tryz.f123.body.get! = some c123 := by kernel_rfl
theorem r123 : resTmps Tryz.prog Tryz.f123.results.toList = some [.tmp 4] := by kernel_rfl
def c93 : TCode := (.seq (.ops [⟨(some 4), 6, .mv (.c (.i .i64 0)), none, []⟩])
  (.seq (.seq (.ops [⟨(some 5), 7, .mv (.c (.i .i64 0)), none, []⟩])
  (.block 0 (.loop (.seq (.seq (.ops [⟨(some 6), 8, .mv (.t 5), none, []⟩, ⟨(some 7), 9, .mv (.t 0), none, []⟩, ⟨(some 8), 10, .len false (.t 7), none, []⟩, ⟨(some 9), 11, .bin .lss (.t 6) (.t 8), none, []⟩])
  (.cond (.t 9)
  .skip
  (.exit 0)))
  (.seq (.block 1 (.seq (.ops [⟨(some 12), 14, .mv (.t 0), none, []⟩, ⟨(some 13), 15, .mv (.t 5), none, []⟩, ⟨(some 14), 16, .mv (.t 1), none, []⟩, ⟨(some 15), 17, .iaddr 2 (.t 12) (.t 13), none, []⟩, ⟨(some 16), 18, .faddr 0 1 (.t 15), none, []⟩, ⟨none, 1004005, .store 1 (.t 16) (.t 14), none, []⟩])
  (.seq (.ops [⟨(some 17), 19, .mv (.t 1), none, []⟩, ⟨(some 18), 20, .bin .add (.t 17) (.c (.i .i64 1)), none, []⟩, ⟨(some 1), 3, .mv (.t 18), none, []⟩])
  (.seq (.ops [⟨(some 19), 21, .mv (.t 0), none, []⟩, ⟨(some 20), 22, .mv (.t 5), none, []⟩, ⟨(some 21), 23, .mv (.t 1), none, []⟩, ⟨(some 22), 24, .iaddr 2 (.t 19) (.t 20), none, []⟩, ⟨(some 23), 25, .faddr 1 1 (.t 22), none, []⟩, ⟨none, 1006005, .store 1 (.t 23) (.t 21), none, []⟩])
  (.ops [⟨(some 24), 26, .mv (.t 1), none, []⟩, ⟨(some 25), 27, .bin .add (.t 24) (.c (.i .i64 1)), none, []⟩, ⟨(some 1), 3, .mv (.t 25), none, []⟩])))))
  (.ops [⟨(some 10), 12, .mv (.t 5), none, []⟩, ⟨(some 11), 13, .bin .add (.t 10) (.c (.i .i64 1)), none, []⟩, ⟨(some 5), 7, .mv (.t 11), none, []⟩]))))))
  (.seq (.ops [⟨(some 26), 28, .mv (.t 1), none, []⟩, ⟨(some 4), 6, .mv (.t 26), none, []⟩])
  .ret)))
theorem k93 : compCode Tryz.prog Tryz.f93.ntmps Tryz.f93.body.get! = some c93 := by kernel_rfl
theorem r93 : resTmps Tryz.prog Tryz.f93.results.toList = some [.tmp 4] := by kernel_rfl
def c96 : TCode := (.seq (.ops [⟨(some 4), 6, .mv (.c (.i .i64 0)), none, []⟩])
  (.seq (.seq (.ops [⟨(some 5), 7, .mv (.c (.i .i64 0)), none, []⟩])
  (.block 0 (.loop (.seq (.seq (.ops [⟨(some 6), 8, .mv (.t 5), none, []⟩, ⟨(some 7), 9, .mv (.t 0), none, []⟩, ⟨(some 8), 10, .len false (.t 7), none, []⟩, ⟨(some 9), 11, .bin .lss (.t 6) (.t 8), none, []⟩])
  (.cond (.t 9)
  .skip
  (.exit 0)))
  (.seq (.block 1 (.seq (.seq (.ops [⟨(some 12), 14, .mv (.t 0), none, []⟩, ⟨(some 13), 15, .mv (.t 5), none, []⟩, ⟨(some 14), 16, .iaddr 2 (.t 12) (.t 13), none, []⟩, ⟨(some 15), 17, .faddr 0 1 (.t 14), none, []⟩, ⟨(some 16), 18, .load false 1 (.t 15), none, []⟩, ⟨(some 17), 19, .mv (.t 1), none, []⟩, ⟨(some 18), 20, .bin .neq (.t 16) (.t 17), none, []⟩])
  (.cond (.t 18)
  (.seq (.ops [⟨(some 4), 6, .mv (.c (.i .i64 (-1))), none, []⟩])
  .ret)
  .skip))
  (.seq (.ops [⟨(some 19), 21, .mv (.t 1), none, []⟩, ⟨(some 20), 22, .bin .add (.t 19) (.c (.i .i64 1)), none, []⟩, ⟨(some 1), 3, .mv (.t 20), none, []⟩])
  (.seq (.seq (.ops [⟨(some 21), 23, .mv (.t 0), none, []⟩, ⟨(some 22), 24, .mv (.t 5), none, []⟩, ⟨(some 23), 25, .iaddr 2 (.t 21) (.t 22), none, []⟩, ⟨(some 24), 26, .faddr 1 1 (.t 23), none, []⟩, ⟨(some 25), 27, .load false 1 (.t 24), none, []⟩, ⟨(some 26), 28, .mv (.t 1), none, []⟩, ⟨(some 27), 29, .bin .neq (.t 25) (.t 26), none, []⟩])
  (.cond (.t 27)
  (.seq (.ops [⟨(some 4), 6, .mv (.c (.i .i64 (-1))), none, []⟩])
  .ret)
  .skip))
  (.ops [⟨(some 28), 30, .mv (.t 1), none, []⟩, ⟨(some 29), 31, .bin .add (.t 28) (.c (.i .i64 1)), none, []⟩, ⟨(some 1), 3, .mv (.t 29), none, []⟩])))))
  (.ops [⟨(some 10), 12, .mv (.t 5), none, []⟩, ⟨(some 11), 13, .bin .add (.t 10) (.c (.i .i64 1)), none, []⟩, ⟨(some 5), 7, .mv (.t 11), none, []⟩]))))))
  (.seq (.ops [⟨(some 30), 32, .mv (.t 1), none, []⟩, ⟨(some 4), 6, .mv (.t 30), none, []⟩])
  .ret)))
theorem k96 : compCode Tryz.prog Tryz.f96.ntmps Tryz.f96.body.get! = some c96 := by kernel_rfl
theorem r96 : resTmps Tryz.prog Tryz.f96.results.toList = some [.tmp 4] := by kernel_rfl
def c62 : TCode := (.seq (.ops [⟨(some 1), 3, .box 2 (.t 0), none, []⟩, ⟨(some 2), 4, .mv (.c (.sl true 2 [])), none, []⟩])
  (.seq (.ops [⟨(some 7), 9, .bslice 2 0 [(.i .i64 0), (.i .i64 0)] [], none, []⟩, ⟨(some 3), 5, .mv (.t 7), none, []⟩])
  (.seq (.seq (.ops [⟨(some 8), 10, .load true 2 (.t 1), none, []⟩, ⟨(some 9), 11, .call 60 [((.t 8), 0)], none, []⟩, ⟨(some 10), 12, .un .not (.t 9), none, []⟩])
  (.cond (.t 10)
  (.seq (.ops [⟨(some 11), 13, .mv (.t 3), none, []⟩, ⟨(some 2), 4, .mv (.t 11), none, []⟩])
  .ret)
  .skip))
  (.seq (.ops [⟨(some 12), 14, .faddr 0 1 (.t 1), none, []⟩, ⟨(some 13), 15, .load false 1 (.t 12), none, []⟩, ⟨(some 14), 16, .len false (.t 13), none, []⟩, ⟨(some 15), 17, .mkslice 1 1 [(.b false)] (.t 14) (.t 14), none, []⟩, ⟨(some 4), 6, .mv (.t 15), none, []⟩])
  (.seq (.seq (.ops [⟨(some 5), 7, .mv (.c (.i .i64 0)), none, []⟩])
  (.block 0 (.loop (.seq (.seq (.ops [⟨(some 16), 18, .mv (.t 5), none, []⟩, ⟨(some 17), 19, .faddr 1 1 (.t 1), none, []⟩, ⟨(some 18), 20, .load false 1 (.t 17), none, []⟩, ⟨(some 19), 21, .len false (.t 18), none, []⟩, ⟨(some 20), 22, .bin .lss (.t 16) (.t 19), none, []⟩])
  (.cond (.t 20)
  .skip
  (.exit 0)))
  (.seq (.block 1 (.ops [⟨(some 23), 25, .mv (.t 4), none, []⟩, ⟨(some 24), 26, .faddr 1 1 (.t 1), none, []⟩, ⟨(some 25), 27, .load false 1 (.t 24), none, []⟩, ⟨(some 26), 28, .mv (.t 5), none, []⟩, ⟨(some 27), 29, .iaddr 1 (.t 25) (.t 26), none, []⟩, ⟨(some 28), 30, .load false 1 (.t 27), none, []⟩, ⟨(some 29), 31, .iaddr 1 (.t 23) (.t 28), none, []⟩, ⟨none, 1008007, .store 1 (.t 29) (.c (.b true)), none, []⟩]))
  (.ops [⟨(some 21), 23, .mv (.t 5), none, []⟩, ⟨(some 22), 24, .bin .add (.t 21) (.c (.i .i64 1)), none, []⟩, ⟨(some 5), 7, .mv (.t 22), none, []⟩]))))))
  (.seq (.seq (.ops [⟨(some 6), 8, .mv (.c (.i .i64 0)), none, []⟩])
  (.block 2 (.loop (.seq (.seq (.ops [⟨(some 30), 32, .mv (.t 6), none, []⟩, ⟨(some 31), 33, .faddr 0 1 (.t 1), none, []⟩, ⟨(some 32), 34, .load false 1 (.t 31), none, []⟩, ⟨(some 33), 35, .len false (.t 32), none, []⟩, ⟨(some 34), 36, .bin .lss (.t 30) (.t 33), none, []⟩])
  (.cond (.t 34)
  .skip
  (.exit 2)))
  (.seq (.block 3 (.seq (.ops [⟨(some 37), 39, .mv (.t 4), none, []⟩, ⟨(some 38), 40, .mv (.t 6), none, []⟩, ⟨(some 39), 41, .iaddr 1 (.t 37) (.t 38), none, []⟩, ⟨(some 40), 42, .load false 1 (.t 39), none, []⟩, ⟨(some 41), 43, .un .not (.t 40), none, []⟩])
  (.cond (.t 41)
  (.ops [⟨(some 42), 44, .mv (.t 3), none, []⟩, ⟨(some 43), 45, .mv (.t 6), none, []⟩, ⟨(some 44), 46, .faddr 0 1 (.t 1), none, []⟩, ⟨(some 45), 47, .load false 1 (.t 44), none, []⟩, ⟨(some 46), 48, .mv (.t 6), none, []⟩, ⟨(some 47), 49, .iaddr 1 (.t 45) (.t 46), none, []⟩, ⟨(some 48), 50, .load false 1 (.t 47), none, []⟩, ⟨(some 49), 51, .build [(.i .i64 0), (.i .i64 0)] [(0, 1, (.t 43)), (1, 1, (.t 48))], none, []⟩, ⟨(some 50), 52, .bslice 2 1 [(.i .i64 0), (.i .i64 0)] [(0, (.t 49))], none, []⟩, ⟨(some 51), 53, .app 2 16 (.t 42) (.t 50), none, []⟩, ⟨(some 3), 5, .mv (.t 51), none, []⟩])
  .skip)))
  (.ops [⟨(some 35), 37, .mv (.t 6), none, []⟩, ⟨(some 36), 38, .bin .add (.t 35) (.c (.i .i64 1)), none, []⟩, ⟨(some 6), 8, .mv (.t 36), none, []⟩]))))))
  (.seq (.ops [⟨(some 52), 54, .mv (.t 3), none, []⟩, ⟨(some 2), 4, .mv (.t 52), none, []⟩])
  .ret)))))))
theorem k62 : compCode Tryz.prog Tryz.f62.ntmps Tryz.f62.body.get! = some c62 := by kernel_rfl
theorem r62 : resTmps Tryz.prog Tryz.f62.results.toList = some [.tmp 2] := by kernel_rfl
@[simp] def eT (p : Int × Int) : List TV := [.i .i64 p.1, .i .i64 p.2]
@[simp] theorem fzL_eT (p : Int × Int) : fzL (eT p) = eT p := rfl
@[simp] theorem fzLL_eT (l : List (Int × Int)) : fzLL (l.map eT) = l.map eT := fzLL_map fzL_eT l
@[simp] theorem noROLL_eT (l : List (Int × Int)) : noROLL (l.map eT) = true := noROLL_map (fun _ => rfl) l
@[simp] theorem noref_eT (l : List (Int × Int)) : (l.map eT).all (·.all noref) = true := noref_map (fun _ => rfl) l
@[simp] theorem srcT_eT (H : Hp) (z : Nat) (l : List (Int × Int)) : srcT H (.sl false z (l.map eT)) = some (z, l.map eT, H, []) := by simp only [srcT, noref_eT, if_true]
theorem w123 (a b : List (Int × Int)) (ha : a.length ≤ 2^40) (hb : b.length ≤ 2^40) : Contract Tryz.prog false 123 [.ro, .ro] [.sl false 2 (a.map eT), .sl false 2 (b.map eT)] [.b (decide (a = b))] [] := by
  refine mk_contract [] Tryz.func123 (c := Tryz.f123.body.get!) (by kernel_rfl) k123 r123 (of_decide_eq_true rfl) fun _ => ?_
  unfold c123; simp
  refine ⟨fun h => ?_, fun h => ?_⟩
  · refine twp_for a.length (fun j s => s.t 0 = .sl false 2 (a.map eT) ∧ s.t 1 = .sl false 2 (b.map eT) ∧ s.t 5 = .i .i64 j ∧ a.take j = b.take j ∧ s.H = lk [(1, [])]) [] (by simp) ?_ ?_
    · simp
    · rintro j s hj ⟨q0, q1, q5, hab, qH⟩
      rw [nf_of qH]
      simp [q0, q1, q5]
      refine ⟨fun hlt => ?_, fun hge => ?_⟩
      · have hw : IntKind.i64.wrap (j + 1) = j + 1 := wrap_id (by omega) (by omega)
        obtain ⟨x, hx⟩ := get_some hlt
        obtain ⟨y, hy⟩ := get_some (l := b) (j := j) (by omega)
        simp [hx, hy, hw, q0, q1, q5]
        by_cases hxy : x = y
        · refine callW_ms [.ro, .ro] ?_
          simp [entT]
          refine callX_of ((w135 x.1 x.2 y.1 y.2).t ⟨by rw [hxy], by rw [hxy]⟩) (by simp) ?_
          simp [hw, q0, q1, q5]
          exact ⟨hlt, by rw [take_snoc hx, take_snoc hy, hab, hxy]⟩
        · refine callW_ms [.ro, .ro] ?_
          simp [entT]
          refine callX_of ((w135 x.1 x.2 y.1 y.2).f (fun h => hxy (Prod.ext h.1 h.2))) (by simp) ?_
          simp [hw, q0, q1, q5]
          intro hab2; subst hab2; rw [hx] at hy; cases hy; exact absurd rfl hxy
      · obtain rfl : j = a.length := by omega
        rw [List.take_of_length_le (Nat.le_refl _), List.take_of_length_le (by omega)] at hab
        exact hab
  · rintro rfl; exact h rfl
theorem w93 (l : List (Int × Int)) (k : Int) (hl : l.length ≤ 2^38) (hk : 0 ≤ k) (hk2 : k ≤ 2^40) : Contract Tryz.prog false 93 [.own, .ro] [.sl true 2 (l.map eT), .i .i64 k] [.i .i64 (k + 2 * l.length)] [some (.sl true 2 ((mkL 2 (fun k => (k, k + 1)) k l.length).map eT))] := by
  refine mk_contract [some [(1, 0)]] Tryz.func93 (c := Tryz.f93.body.get!) (by kernel_rfl) k93 r93 (of_decide_eq_true rfl) fun _ => ?_
  unfold c93; simp
  refine twp_for l.length (fun j s => s.t 0 = .rf [(1, 0)] 0 l.length ∧ s.t 1 = .i .i64 (k + 2 * j) ∧ s.t 5 = .i .i64 j ∧ s.H = lk [(1, [.sl true 2 ((mkL 2 (fun k => (k, k + 1)) k j).map eT ++ (l.map eT).drop j)])]) [] (by simp) ?_ ?_
  · simp
  · rintro j s hj ⟨q0, q1, q5, qH⟩
    rw [nf_of qH]
    simp [q0, q1, q5]
    refine ⟨fun hlt => ?_, fun hge => ?_⟩
    · have hw : IntKind.i64.wrap (j + 1) = j + 1 := wrap_id (by omega) (by omega)
      obtain ⟨x, hx⟩ := get_some hlt
      have hw1 : IntKind.i64.wrap (k + 2 * j + 1) = k + 2 * j + 1 := wrap_id (by omega) (by omega)
      have hw2 : IntKind.i64.wrap (k + 2 * j + 1 + 1) = k + 2 * j + 1 + 1 := wrap_id (by omega) (by omega)
      simp [hw, hw1, hw2, q0, q1, q5, drop_at hx]
      omega
    · obtain rfl : j = l.length := by omega
      simp [q0, q1, q5]
theorem w96 (n : Nat) (k : Int) (hl : n ≤ 2^38) (hk : 0 ≤ k) (hk2 : k ≤ 2^40) : Contract Tryz.prog false 96 [.ro, .ro] [.sl false 2 ((mkL 2 (fun k => (k, k + 1)) k n).map eT), .i .i64 k] [.i .i64 (k + 2 * n)] [] := by
  refine mk_contract [] Tryz.func96 (c := Tryz.f96.body.get!) (by kernel_rfl) k96 r96 (of_decide_eq_true rfl) fun _ => ?_
  unfold c96; simp
  refine twp_for n (fun j s => s.t 0 = .sl false 2 ((mkL 2 (fun k => (k, k + 1)) k n).map eT) ∧ s.t 1 = .i .i64 (k + 2 * j) ∧ s.t 5 = .i .i64 j ∧ s.H = lk [(1, [])]) [] (by simp) ?_ ?_
  · simp
  · rintro j s hj ⟨q0, q1, q5, qH⟩
    rw [nf_of qH]
    simp [q0, q1, q5]
    refine ⟨fun hlt => ?_, fun hge => ?_⟩
    · have hw : IntKind.i64.wrap (j + 1) = j + 1 := wrap_id (by omega) (by omega)
      have hx := mkL_get 2 (fun k => (k, k + 1)) k hlt
      have hw1 : IntKind.i64.wrap (k + 2 * j + 1) = k + 2 * j + 1 := wrap_id (by omega) (by omega)
      have hw2 : IntKind.i64.wrap (k + 2 * j + 1 + 1) = k + 2 * j + 1 + 1 := wrap_id (by omega) (by omega)
      simp [hx, hw, hw1, hw2, q0, q1, q5]
      omega
    · obtain rfl : j = n := by omega
      simp [q0, q1, q5]
def liveG (g f : List Int) : Nat → List (Int × Int)
  | 0 => []
  | n + 1 => liveG g f n ++ (if (n : Int) ∈ f then [] else [((n : Int), (g[n]?).getD 0)])
theorem liveG_len (g f : List Int) (n : Nat) : (liveG g f n).length ≤ n := by
  induction n with
  | zero => simp [liveG]
  | succ n ih => simp only [liveG, List.length_append]; split <;> simp <;> omega
def entListF (g f : List Int) : List (Int × Int) := if EntsOkP g f then liveG g f g.length else []
theorem w62 (g f : List Int) (hg : g.length ≤ 2^40) (hf : f.length ≤ 2^40) : Contract Tryz.prog false 62 [.ro] [entsR g f] [.sl true 2 ((entListF g f).map eT)] [] := by
  refine mk_contract [] Tryz.func62 (c := Tryz.f62.body.get!) (by kernel_rfl) k62 r62 (of_decide_eq_true rfl) fun _ => ?_
  unfold c62; unfold entsR; simp
  refine callW_ms [.ro] ?_
  simp
  refine callX_of (w60 g f hg hf) (by simp) ?_
  simp
  refine ⟨fun hE => ?_, fun hE => ?_⟩
  · refine ⟨by omega, ?_⟩
    refine twp_for f.length (fun j s => s.t 1 = .pt [(3, 0)] 0 0 ∧ s.t 3 = .rf [(9, 0)] 0 0 ∧ s.t 4 = .rf [(17, 0)] 0 g.length ∧ s.t 5 = .i .i64 j ∧ s.H = lk [(1, []), (3, [.po true [.sl false 1 (g.map iT), .sl false 1 (f.map iT)]]), (9, [.sl true 2 []]), (17, [.sl true 1 ((freeL g.length (f.take j)).map bT)])]) [] (by simp) ?_ ?_
    · simp
    · rintro j s hj ⟨q1, q3, q4, q5, qH⟩
      rw [nf_of qH]
      simp [q1, q3, q4, q5]
      refine ⟨fun hlt => ?_, fun hge => ?_⟩
      · have hw : IntKind.i64.wrap (j + 1) = j + 1 := wrap_id (by omega) (by omega)
        obtain ⟨x, hx⟩ := get_some hlt
        have hb := hE.2.1.1 x (List.mem_of_getElem? hx)
        have hgt := freeL_get (n := g.length) (f := f.take j) (x := x) hb.1 hb.2
        have hset : (List.map bT (freeL g.length (f.take j))).set x.toNat [.b true] = List.map bT (freeL g.length (f.take (j + 1))) := by
          rw [take_snoc hx, ← freeL_set hb.1 hb.2]; simp
        simp [hx, hw, q1, q3, q4, q5, hb.1, hb.2, hgt, hset]
        omega
      · obtain rfl : j = f.length := by omega
        simp [q1, q3, q4, q5]
        refine twp_forR g.length (fun j s => s.t 1 = .pt [(3, 0)] 0 0 ∧ s.t 3 = .rf [(53, 0)] 0 (liveG g f j).length ∧ s.t 4 = .rf [(17, 0)] 0 g.length ∧ s.t 6 = .i .i64 j ∧ s.H = lk [(1, []), (3, [.po true [.sl false 1 (g.map iT), .sl false 1 (f.map iT)]]), (53, [.sl true 2 ((liveG g f j).map eT)]), (17, [.sl true 1 ((freeL g.length f).map bT)])]) [52] [(9, 53)] (by simp) (by simp) ?_ ?_
        · simp [q1, q3, q4, liveG]
        · rintro j s hj ⟨q1, q3, q4, q6, qH⟩
          rw [nf_of qH]
          simp [q1, q3, q4, q6]
          refine ⟨fun hlt => ?_, fun hge => ?_⟩
          · have hw : IntKind.i64.wrap (j + 1) = j + 1 := wrap_id (by omega) (by omega)
            obtain ⟨x, hx⟩ := get_some hlt
            have hgt := freeL_get (n := g.length) (f := f) (x := j) (by omega) (by omega)
            simp at hgt
            have hll := liveG_len g f j
            simp [hx, hw, q1, q3, q4, q6, hgt]
            refine ⟨hlt, fun h => ?_, fun h => ?_⟩
            · simp [liveG, h, hlt]
            · refine ⟨by omega, hlt, ?_⟩; simp [liveG, h, hx]
          · obtain rfl : j = g.length := by omega
            simp [q1, q3, q4, q6, entListF, hE]
  · simp [entListF, hE]
end Go.Proofs.YtehmdblkkpdmoaaGreatT


namespace Go.Proofs.YtehmdblkkpdmoaaGreatT
set_option linter.unusedVariables false
set_option linter.unusedSimpArgs false
open Go
def c129 : TCode := (.seq (.ops [⟨(some 2), 4, .mv (.c (.b false)), none, []⟩])
  (.seq (.ops [⟨(some 3), 5, .mv (.t 0), none, []⟩, ⟨(some 4), 6, .bin .geq (.t 3) (.c (.i .u8 97)), none, []⟩, ⟨(some 5), 7, .mv (.t 4), none, []⟩, ⟨(some 6), 8, .mv (.t 0), (some (5, true)), []⟩, ⟨(some 7), 9, .bin .leq (.t 6) (.c (.i .u8 122)), (some (5, true)), []⟩, ⟨(some 8), 10, .pick (.t 5) (.t 7) (.c (.b false)), none, []⟩, ⟨(some 9), 11, .mv (.t 8), none, []⟩, ⟨(some 10), 12, .mv (.t 0), (some (9, false)), []⟩, ⟨(some 11), 13, .bin .geq (.t 10) (.c (.i .u8 65)), (some (9, false)), []⟩, ⟨(some 12), 14, .mv (.t 11), (some (9, false)), []⟩, ⟨(some 13), 15, .mv (.t 0), (some (12, true)), []⟩, ⟨(some 14), 16, .bin .leq (.t 13) (.c (.i .u8 90)), (some (12, true)), []⟩, ⟨(some 15), 17, .pick (.t 12) (.t 14) (.c (.b false)), (some (9, false)), []⟩, ⟨(some 16), 18, .pick (.t 9) (.c (.b true)) (.t 15), none, []⟩, ⟨(some 2), 4, .mv (.t 16), none, []⟩])
  .ret))
theorem k129 : compCode Tryz.prog Tryz.f129.ntmps Tryz.f129.body.get! = some c129 := by kernel_rfl
theorem r129 : resTmps Tryz.prog Tryz.f129.results.toList = some [.tmp 2] := by kernel_rfl
def c131 : TCode := (.seq (.ops [⟨(some 2), 4, .mv (.c (.b false)), none, []⟩])
  (.seq (.ops [⟨(some 3), 5, .mv (.t 0), none, []⟩, ⟨(some 4), 6, .bin .geq (.t 3) (.c (.i .u8 97)), none, []⟩, ⟨(some 5), 7, .mv (.t 4), none, []⟩, ⟨(some 6), 8, .mv (.t 0), (some (5, true)), []⟩, ⟨(some 7), 9, .bin .leq (.t 6) (.c (.i .u8 122)), (some (5, true)), []⟩, ⟨(some 8), 10, .pick (.t 5) (.t 7) (.c (.b false)), none, []⟩, ⟨(some 9), 11, .mv (.t 8), none, []⟩, ⟨(some 10), 12, .mv (.t 0), (some (9, false)), []⟩, ⟨(some 11), 13, .bin .geq (.t 10) (.c (.i .u8 65)), (some (9, false)), []⟩, ⟨(some 12), 14, .mv (.t 11), (some (9, false)), []⟩, ⟨(some 13), 15, .mv (.t 0), (some (12, true)), []⟩, ⟨(some 14), 16, .bin .leq (.t 13) (.c (.i .u8 90)), (some (12, true)), []⟩, ⟨(some 15), 17, .pick (.t 12) (.t 14) (.c (.b false)), (some (9, false)), []⟩, ⟨(some 16), 18, .pick (.t 9) (.c (.b true)) (.t 15), none, []⟩, ⟨(some 2), 4, .mv (.t 16), none, []⟩])
  .ret))
theorem k131 : compCode Tryz.prog Tryz.f131.ntmps Tryz.f131.body.get! = some c131 := by kernel_rfl
theorem r131 : resTmps Tryz.prog Tryz.f131.results.toList = some [.tmp 2] := by kernel_rfl
def c138 : TCode := (.seq (.ops [⟨(some 0), 2, .mv (.c (.sl true 1 [])), none, []⟩])
  (.seq (.ops [⟨(some 1), 3, .bslice 1 32 [(.s ⟨#[]⟩)] [(0, (.c (.s ⟨#[115, 121, 115, 116, 101, 109]⟩))), (1, (.c (.s ⟨#[102, 110]⟩))), (2, (.c (.s ⟨#[108, 101, 116]⟩))), (3, (.c (.s ⟨#[105, 102]⟩))), (4, (.c (.s ⟨#[101, 108, 115, 101]⟩))), (5, (.c (.s ⟨#[108, 111, 111, 112]⟩))), (6, (.c (.s ⟨#[101, 97, 99, 104]⟩))), (7, (.c (.s ⟨#[119, 105, 116, 104]⟩))), (8, (.c (.s ⟨#[119, 105, 116, 104, 111, 117, 116]⟩))), (9, (.c (.s ⟨#[101, 109, 105, 116]⟩))), (10, (.c (.s ⟨#[104, 101, 97, 114]⟩))), (11, (.c (.s ⟨#[97, 115]⟩))), (12, (.c (.s ⟨#[115, 112, 97, 119, 110]⟩))), (13, (.c (.s ⟨#[107, 105, 108, 108]⟩))), (14, (.c (.s ⟨#[112, 117, 116]⟩))), (15, (.c (.s ⟨#[100, 114, 111, 112]⟩))), (16, (.c (.s ⟨#[100, 111]⟩))), (17, (.c (.s ⟨#[114, 101, 116, 117, 114, 110]⟩))), (18, (.c (.s ⟨#[112, 105, 99, 107]⟩))), (19, (.c (.s ⟨#[111, 102]⟩))), (20, (.c (.s ⟨#[121, 101, 115]⟩))), (21, (.c (.s ⟨#[110, 111]⟩))), (22, (.c (.s ⟨#[97, 110, 100]⟩))), (23, (.c (.s ⟨#[111, 114]⟩))), (24, (.c (.s ⟨#[110, 111, 116]⟩))), (25, (.c (.s ⟨#[105, 110, 116]⟩))), (26, (.c (.s ⟨#[114, 101, 97, 108]⟩))), (27, (.c (.s ⟨#[112, 97, 105, 114]⟩))), (28, (.c (.s ⟨#[98, 111, 111, 108]⟩))), (29, (.c (.s ⟨#[114, 101]⟩))), (30, (.c (.s ⟨#[105, 109]⟩))), (31, (.c (.s ⟨#[115, 105, 122, 101]⟩)))], none, []⟩, ⟨(some 0), 2, .mv (.t 1), none, []⟩])
  .ret))
theorem k138 : compCode Tryz.prog Tryz.f138.ntmps Tryz.f138.body.get! = some c138 := by kernel_rfl
theorem r138 : resTmps Tryz.prog Tryz.f138.results.toList = some [.tmp 0] := by kernel_rfl
def c130 : TCode := (.seq (.ops [⟨(some 2), 4, .mv (.c (.b false)), none, []⟩])
  (.seq (.ops [⟨(some 5), 7, .call 138 [], none, []⟩, ⟨(some 3), 5, .mv (.t 5), none, []⟩])
  (.seq (.seq (.ops [⟨(some 4), 6, .mv (.c (.i .i64 0)), none, []⟩])
  (.block 0 (.loop (.seq (.seq (.ops [⟨(some 6), 8, .mv (.t 4), none, []⟩, ⟨(some 7), 9, .mv (.t 3), none, []⟩, ⟨(some 8), 10, .len false (.t 7), none, []⟩, ⟨(some 9), 11, .bin .lss (.t 6) (.t 8), none, []⟩])
  (.cond (.t 9)
  .skip
  (.exit 0)))
  (.seq (.block 1 (.seq (.ops [⟨(some 12), 14, .mv (.t 3), none, []⟩, ⟨(some 13), 15, .mv (.t 4), none, []⟩, ⟨(some 14), 16, .iaddr 1 (.t 12) (.t 13), none, []⟩, ⟨(some 15), 17, .load false 1 (.t 14), none, []⟩, ⟨(some 16), 18, .mv (.t 0), none, []⟩, ⟨(some 17), 19, .bin .eql (.t 15) (.t 16), none, []⟩])
  (.cond (.t 17)
  (.seq (.ops [⟨(some 2), 4, .mv (.c (.b true)), none, []⟩])
  .ret)
  .skip)))
  (.ops [⟨(some 10), 12, .mv (.t 4), none, []⟩, ⟨(some 11), 13, .bin .add (.t 10) (.c (.i .i64 1)), none, []⟩, ⟨(some 4), 6, .mv (.t 11), none, []⟩]))))))
  (.seq (.ops [⟨(some 2), 4, .mv (.c (.b false)), none, []⟩])
  .ret))))
theorem k130 : compCode Tryz.prog Tryz.f130.ntmps Tryz.f130.body.get! = some c130 := by kernel_rfl
theorem r130 : resTmps Tryz.prog Tryz.f130.results.toList = some [.tmp 2] := by kernel_rfl
def c132 : TCode := (.seq (.ops [⟨(some 2), 4, .mv (.c (.b false)), none, []⟩])
  (.seq (.seq (.ops [⟨(some 3), 5, .mv (.t 0), none, []⟩])
  (.block 0 (.seq (.seq (.ops [⟨(some 5), 7, .bin .eql (.t 3) (.c (.s ⟨#[115, 121, 115, 116, 101, 109]⟩)), none, []⟩, ⟨(some 4), 6, .mv (.t 5), none, []⟩])
  (.cond (.t 4)
  .skip
  (.seq (.ops [⟨(some 6), 8, .bin .eql (.t 3) (.c (.s ⟨#[102, 110]⟩)), none, []⟩, ⟨(some 4), 6, .mv (.t 6), none, []⟩])
  (.cond (.t 4)
  .skip
  (.seq (.ops [⟨(some 7), 9, .bin .eql (.t 3) (.c (.s ⟨#[108, 101, 116]⟩)), none, []⟩, ⟨(some 4), 6, .mv (.t 7), none, []⟩])
  (.cond (.t 4)
  .skip
  (.seq (.ops [⟨(some 8), 10, .bin .eql (.t 3) (.c (.s ⟨#[105, 102]⟩)), none, []⟩, ⟨(some 4), 6, .mv (.t 8), none, []⟩])
  (.cond (.t 4)
  .skip
  (.seq (.ops [⟨(some 9), 11, .bin .eql (.t 3) (.c (.s ⟨#[101, 108, 115, 101]⟩)), none, []⟩, ⟨(some 4), 6, .mv (.t 9), none, []⟩])
  (.cond (.t 4)
  .skip
  (.seq (.ops [⟨(some 10), 12, .bin .eql (.t 3) (.c (.s ⟨#[108, 111, 111, 112]⟩)), none, []⟩, ⟨(some 4), 6, .mv (.t 10), none, []⟩])
  (.cond (.t 4)
  .skip
  (.seq (.ops [⟨(some 11), 13, .bin .eql (.t 3) (.c (.s ⟨#[101, 97, 99, 104]⟩)), none, []⟩, ⟨(some 4), 6, .mv (.t 11), none, []⟩])
  (.cond (.t 4)
  .skip
  (.seq (.ops [⟨(some 12), 14, .bin .eql (.t 3) (.c (.s ⟨#[119, 105, 116, 104]⟩)), none, []⟩, ⟨(some 4), 6, .mv (.t 12), none, []⟩])
  (.cond (.t 4)
  .skip
  (.seq (.ops [⟨(some 13), 15, .bin .eql (.t 3) (.c (.s ⟨#[119, 105, 116, 104, 111, 117, 116]⟩)), none, []⟩, ⟨(some 4), 6, .mv (.t 13), none, []⟩])
  (.cond (.t 4)
  .skip
  (.seq (.ops [⟨(some 14), 16, .bin .eql (.t 3) (.c (.s ⟨#[101, 109, 105, 116]⟩)), none, []⟩, ⟨(some 4), 6, .mv (.t 14), none, []⟩])
  (.cond (.t 4)
  .skip
  (.seq (.ops [⟨(some 15), 17, .bin .eql (.t 3) (.c (.s ⟨#[104, 101, 97, 114]⟩)), none, []⟩, ⟨(some 4), 6, .mv (.t 15), none, []⟩])
  (.cond (.t 4)
  .skip
  (.seq (.ops [⟨(some 16), 18, .bin .eql (.t 3) (.c (.s ⟨#[97, 115]⟩)), none, []⟩, ⟨(some 4), 6, .mv (.t 16), none, []⟩])
  (.cond (.t 4)
  .skip
  (.seq (.ops [⟨(some 17), 19, .bin .eql (.t 3) (.c (.s ⟨#[115, 112, 97, 119, 110]⟩)), none, []⟩, ⟨(some 4), 6, .mv (.t 17), none, []⟩])
  (.cond (.t 4)
  .skip
  (.seq (.ops [⟨(some 18), 20, .bin .eql (.t 3) (.c (.s ⟨#[107, 105, 108, 108]⟩)), none, []⟩, ⟨(some 4), 6, .mv (.t 18), none, []⟩])
  (.cond (.t 4)
  .skip
  (.seq (.ops [⟨(some 19), 21, .bin .eql (.t 3) (.c (.s ⟨#[112, 117, 116]⟩)), none, []⟩, ⟨(some 4), 6, .mv (.t 19), none, []⟩])
  (.cond (.t 4)
  .skip
  (.seq (.ops [⟨(some 20), 22, .bin .eql (.t 3) (.c (.s ⟨#[100, 114, 111, 112]⟩)), none, []⟩, ⟨(some 4), 6, .mv (.t 20), none, []⟩])
  (.cond (.t 4)
  .skip
  (.seq (.ops [⟨(some 21), 23, .bin .eql (.t 3) (.c (.s ⟨#[100, 111]⟩)), none, []⟩, ⟨(some 4), 6, .mv (.t 21), none, []⟩])
  (.cond (.t 4)
  .skip
  (.seq (.ops [⟨(some 22), 24, .bin .eql (.t 3) (.c (.s ⟨#[114, 101, 116, 117, 114, 110]⟩)), none, []⟩, ⟨(some 4), 6, .mv (.t 22), none, []⟩])
  (.cond (.t 4)
  .skip
  (.seq (.ops [⟨(some 23), 25, .bin .eql (.t 3) (.c (.s ⟨#[112, 105, 99, 107]⟩)), none, []⟩, ⟨(some 4), 6, .mv (.t 23), none, []⟩])
  (.cond (.t 4)
  .skip
  (.seq (.ops [⟨(some 24), 26, .bin .eql (.t 3) (.c (.s ⟨#[111, 102]⟩)), none, []⟩, ⟨(some 4), 6, .mv (.t 24), none, []⟩])
  (.cond (.t 4)
  .skip
  (.seq (.ops [⟨(some 25), 27, .bin .eql (.t 3) (.c (.s ⟨#[121, 101, 115]⟩)), none, []⟩, ⟨(some 4), 6, .mv (.t 25), none, []⟩])
  (.cond (.t 4)
  .skip
  (.seq (.ops [⟨(some 26), 28, .bin .eql (.t 3) (.c (.s ⟨#[110, 111]⟩)), none, []⟩, ⟨(some 4), 6, .mv (.t 26), none, []⟩])
  (.cond (.t 4)
  .skip
  (.seq (.ops [⟨(some 27), 29, .bin .eql (.t 3) (.c (.s ⟨#[97, 110, 100]⟩)), none, []⟩, ⟨(some 4), 6, .mv (.t 27), none, []⟩])
  (.cond (.t 4)
  .skip
  (.seq (.ops [⟨(some 28), 30, .bin .eql (.t 3) (.c (.s ⟨#[111, 114]⟩)), none, []⟩, ⟨(some 4), 6, .mv (.t 28), none, []⟩])
  (.cond (.t 4)
  .skip
  (.seq (.ops [⟨(some 29), 31, .bin .eql (.t 3) (.c (.s ⟨#[110, 111, 116]⟩)), none, []⟩, ⟨(some 4), 6, .mv (.t 29), none, []⟩])
  (.cond (.t 4)
  .skip
  (.seq (.ops [⟨(some 30), 32, .bin .eql (.t 3) (.c (.s ⟨#[105, 110, 116]⟩)), none, []⟩, ⟨(some 4), 6, .mv (.t 30), none, []⟩])
  (.cond (.t 4)
  .skip
  (.seq (.ops [⟨(some 31), 33, .bin .eql (.t 3) (.c (.s ⟨#[114, 101, 97, 108]⟩)), none, []⟩, ⟨(some 4), 6, .mv (.t 31), none, []⟩])
  (.cond (.t 4)
  .skip
  (.seq (.ops [⟨(some 32), 34, .bin .eql (.t 3) (.c (.s ⟨#[112, 97, 105, 114]⟩)), none, []⟩, ⟨(some 4), 6, .mv (.t 32), none, []⟩])
  (.cond (.t 4)
  .skip
  (.seq (.ops [⟨(some 33), 35, .bin .eql (.t 3) (.c (.s ⟨#[98, 111, 111, 108]⟩)), none, []⟩, ⟨(some 4), 6, .mv (.t 33), none, []⟩])
  (.cond (.t 4)
  .skip
  (.seq (.ops [⟨(some 34), 36, .bin .eql (.t 3) (.c (.s ⟨#[114, 101]⟩)), none, []⟩, ⟨(some 4), 6, .mv (.t 34), none, []⟩])
  (.cond (.t 4)
  .skip
  (.seq (.ops [⟨(some 35), 37, .bin .eql (.t 3) (.c (.s ⟨#[105, 109]⟩)), none, []⟩, ⟨(some 4), 6, .mv (.t 35), none, []⟩])
  (.cond (.t 4)
  .skip
  (.ops [⟨(some 36), 38, .bin .eql (.t 3) (.c (.s ⟨#[115, 105, 122, 101]⟩)), none, []⟩, ⟨(some 4), 6, .mv (.t 36), none, []⟩])))))))))))))))))))))))))))))))))))))))))))))))))))))))))))))))
  (.cond (.t 4)
  (.seq (.ops [⟨(some 2), 4, .mv (.c (.b true)), none, []⟩])
  .ret)
  .skip))))
  (.seq (.ops [⟨(some 2), 4, .mv (.c (.b false)), none, []⟩])
  .ret)))
theorem k132 : compCode Tryz.prog Tryz.f132.ntmps Tryz.f132.body.get! = some c132 := by kernel_rfl
theorem r132 : resTmps Tryz.prog Tryz.f132.results.toList = some [.tmp 2] := by kernel_rfl
def c108 : TCode := (.seq (.ops [⟨(some 2), 4, .mv (.c (.b false)), none, []⟩])
  (.seq (.seq (.ops [⟨(some 4), 6, .mv (.t 0), none, []⟩, ⟨(some 5), 7, .len true (.t 4), none, []⟩, ⟨(some 6), 8, .call 52 [((.t 5), 0), ((.c (.i .i64 1)), 0), ((.c (.i .i64 12)), 0)], none, []⟩, ⟨(some 7), 9, .un .not (.t 6), none, []⟩])
  (.cond (.t 7)
  (.seq (.ops [⟨(some 2), 4, .mv (.c (.b false)), none, []⟩])
  .ret)
  .skip))
  (.seq (.seq (.ops [⟨(some 3), 5, .mv (.c (.i .i64 0)), none, []⟩])
  (.block 0 (.loop (.seq (.seq (.ops [⟨(some 8), 10, .mv (.t 3), none, []⟩, ⟨(some 9), 11, .mv (.t 0), none, []⟩, ⟨(some 10), 12, .len true (.t 9), none, []⟩, ⟨(some 11), 13, .bin .lss (.t 8) (.t 10), none, []⟩])
  (.cond (.t 11)
  .skip
  (.exit 0)))
  (.seq (.block 1 (.seq (.ops [⟨(some 14), 16, .mv (.t 0), none, []⟩, ⟨(some 15), 17, .mv (.t 3), none, []⟩, ⟨(some 16), 18, .ix (.t 14) (.t 15), none, []⟩, ⟨(some 17), 19, .call 129 [((.t 16), 0)], none, []⟩, ⟨(some 18), 20, .un .not (.t 17), none, []⟩])
  (.cond (.t 18)
  (.seq (.ops [⟨(some 2), 4, .mv (.c (.b false)), none, []⟩])
  .ret)
  .skip)))
  (.ops [⟨(some 12), 14, .mv (.t 3), none, []⟩, ⟨(some 13), 15, .bin .add (.t 12) (.c (.i .i64 1)), none, []⟩, ⟨(some 3), 5, .mv (.t 13), none, []⟩]))))))
  (.seq (.ops [⟨(some 19), 21, .mv (.t 0), none, []⟩, ⟨(some 20), 22, .call 130 [((.t 19), 0)], none, []⟩, ⟨(some 21), 23, .un .not (.t 20), none, []⟩, ⟨(some 2), 4, .mv (.t 21), none, []⟩])
  .ret))))
theorem k108 : compCode Tryz.prog Tryz.f108.ntmps Tryz.f108.body.get! = some c108 := by kernel_rfl
theorem r108 : resTmps Tryz.prog Tryz.f108.results.toList = some [.tmp 2] := by kernel_rfl
def c114 : TCode := (.seq (.ops [⟨(some 2), 4, .mv (.c (.b false)), none, []⟩])
  (.seq (.seq (.ops [⟨(some 3), 5, .mv (.c (.i .i64 0)), none, []⟩])
  (.block 0 (.loop (.seq (.seq (.ops [⟨(some 4), 6, .mv (.t 3), none, []⟩, ⟨(some 5), 7, .mv (.t 0), none, []⟩, ⟨(some 6), 8, .len true (.t 5), none, []⟩, ⟨(some 7), 9, .bin .lss (.t 4) (.t 6), none, []⟩])
  (.cond (.t 7)
  .skip
  (.exit 0)))
  (.seq (.block 1 (.seq (.ops [⟨(some 10), 12, .mv (.t 0), none, []⟩, ⟨(some 11), 13, .mv (.t 3), none, []⟩, ⟨(some 12), 14, .ix (.t 10) (.t 11), none, []⟩, ⟨(some 13), 15, .call 131 [((.t 12), 0)], none, []⟩, ⟨(some 14), 16, .un .not (.t 13), none, []⟩])
  (.cond (.t 14)
  (.seq (.ops [⟨(some 2), 4, .mv (.c (.b false)), none, []⟩])
  .ret)
  .skip)))
  (.ops [⟨(some 8), 10, .mv (.t 3), none, []⟩, ⟨(some 9), 11, .bin .add (.t 8) (.c (.i .i64 1)), none, []⟩, ⟨(some 3), 5, .mv (.t 9), none, []⟩]))))))
  (.seq (.ops [⟨(some 15), 17, .mv (.t 0), none, []⟩, ⟨(some 16), 18, .len true (.t 15), none, []⟩, ⟨(some 17), 19, .call 54 [((.t 16), 0), ((.c (.i .i64 1)), 0), ((.c (.i .i64 12)), 0)], none, []⟩, ⟨(some 18), 20, .mv (.t 17), none, []⟩, ⟨(some 19), 21, .mv (.t 0), (some (18, true)), []⟩, ⟨(some 20), 22, .call 132 [((.t 19), 0)], (some (18, true)), []⟩, ⟨(some 21), 23, .un .not (.t 20), (some (18, true)), []⟩, ⟨(some 22), 24, .pick (.t 18) (.t 21) (.c (.b false)), none, []⟩, ⟨(some 2), 4, .mv (.t 22), none, []⟩])
  .ret)))
theorem k114 : compCode Tryz.prog Tryz.f114.ntmps Tryz.f114.body.get! = some c114 := by kernel_rfl
theorem r114 : resTmps Tryz.prog Tryz.f114.results.toList = some [.tmp 2] := by kernel_rfl
def c56 : TCode := (.seq (.ops [⟨(some 2), 4, .box 2 (.t 0), none, []⟩, ⟨(some 4), 6, .mv (.c (.i .i64 0)), none, []⟩])
  (.seq (.ops [⟨(some 5), 7, .mv (.t 1), none, []⟩, ⟨(some 6), 8, .faddr 0 1 (.t 2), none, []⟩, ⟨(some 7), 9, .load false 1 (.t 6), none, []⟩, ⟨(some 8), 10, .len true (.t 7), none, []⟩, ⟨(some 9), 11, .bin .sub (.t 5) (.t 8), none, []⟩, ⟨(some 1), 3, .mv (.t 9), none, []⟩])
  (.seq (.seq (.ops [⟨(some 10), 12, .mv (.t 1), none, []⟩, ⟨(some 11), 13, .bin .lss (.t 10) (.c (.i .i64 0)), none, []⟩])
  (.cond (.t 11)
  (.seq (.ops [⟨(some 4), 6, .mv (.c (.i .i64 (-1))), none, []⟩])
  .ret)
  .skip))
  (.seq (.ops [⟨(some 12), 14, .mv (.t 1), none, []⟩, ⟨(some 4), 6, .mv (.t 12), none, []⟩])
  .ret))))
theorem k56 : compCode Tryz.prog Tryz.f56.ntmps Tryz.f56.body.get! = some c56 := by kernel_rfl
theorem r56 : resTmps Tryz.prog Tryz.f56.results.toList = some [.tmp 4] := by kernel_rfl
def c23 : TCode := (.seq (.ops [⟨(some 4), 6, .mv (.c (.i .i64 0)), none, []⟩])
  (.seq (.ops [⟨(some 6), 8, .mv (.t 1), none, []⟩, ⟨(some 7), 9, .mv (.t 0), none, []⟩, ⟨(some 8), 10, .len false (.t 7), none, []⟩, ⟨(some 9), 11, .bin .sub (.t 6) (.t 8), none, []⟩, ⟨(some 1), 3, .mv (.t 9), none, []⟩])
  (.seq (.seq (.ops [⟨(some 10), 12, .mv (.t 1), none, []⟩, ⟨(some 11), 13, .bin .lss (.t 10) (.c (.i .i64 0)), none, []⟩])
  (.cond (.t 11)
  (.seq (.ops [⟨(some 4), 6, .mv (.c (.i .i64 (-1))), none, []⟩])
  .ret)
  .skip))
  (.seq (.seq (.ops [⟨(some 5), 7, .mv (.c (.i .i64 0)), none, []⟩])
  (.block 0 (.loop (.seq (.seq (.ops [⟨(some 12), 14, .mv (.t 5), none, []⟩, ⟨(some 13), 15, .mv (.t 0), none, []⟩, ⟨(some 14), 16, .len false (.t 13), none, []⟩, ⟨(some 15), 17, .bin .lss (.t 12) (.t 14), none, []⟩])
  (.cond (.t 15)
  .skip
  (.exit 0)))
  (.seq (.block 1 (.seq (.ops [⟨(some 18), 20, .mv (.t 0), none, []⟩, ⟨(some 19), 21, .mv (.t 5), none, []⟩, ⟨(some 20), 22, .iaddr 2 (.t 18) (.t 19), none, []⟩, ⟨(some 21), 23, .load true 2 (.t 20), none, []⟩, ⟨(some 22), 24, .mv (.t 1), none, []⟩, ⟨(some 23), 25, .call 56 [((.t 21), 0), ((.t 22), 0)], none, []⟩, ⟨(some 1), 3, .mv (.t 23), none, []⟩])
  (.seq (.ops [⟨(some 24), 26, .mv (.t 1), none, []⟩, ⟨(some 25), 27, .bin .lss (.t 24) (.c (.i .i64 0)), none, []⟩])
  (.cond (.t 25)
  (.seq (.ops [⟨(some 4), 6, .mv (.c (.i .i64 (-1))), none, []⟩])
  .ret)
  .skip))))
  (.ops [⟨(some 16), 18, .mv (.t 5), none, []⟩, ⟨(some 17), 19, .bin .add (.t 16) (.c (.i .i64 1)), none, []⟩, ⟨(some 5), 7, .mv (.t 17), none, []⟩]))))))
  (.seq (.ops [⟨(some 26), 28, .mv (.t 1), none, []⟩, ⟨(some 4), 6, .mv (.t 26), none, []⟩])
  .ret)))))
theorem k23 : compCode Tryz.prog Tryz.f23.ntmps Tryz.f23.body.get! = some c23 := by kernel_rfl
theorem r23 : resTmps Tryz.prog Tryz.f23.results.toList = some [.tmp 4] := by kernel_rfl
def c6 : TCode := (.seq (.ops [⟨(some 2), 4, .box 3 (.t 0), none, []⟩, ⟨(some 4), 6, .mv (.c (.i .i64 0)), none, []⟩])
  (.seq (.ops [⟨(some 5), 7, .faddr 0 1 (.t 2), none, []⟩, ⟨(some 6), 8, .load false 1 (.t 5), none, []⟩, ⟨(some 7), 9, .mv (.t 1), none, []⟩, ⟨(some 8), 10, .call 23 [((.t 6), 0), ((.t 7), 0)], none, []⟩, ⟨(some 1), 3, .mv (.t 8), none, []⟩])
  (.seq (.seq (.ops [⟨(some 9), 11, .mv (.t 1), none, []⟩, ⟨(some 10), 12, .bin .lss (.t 9) (.c (.i .i64 0)), none, []⟩])
  (.cond (.t 10)
  (.seq (.ops [⟨(some 4), 6, .mv (.c (.i .i64 (-1))), none, []⟩])
  .ret)
  .skip))
  (.seq (.ops [⟨(some 11), 13, .faddr 1 1 (.t 2), none, []⟩, ⟨(some 12), 14, .load false 1 (.t 11), none, []⟩, ⟨(some 13), 15, .mv (.t 1), none, []⟩, ⟨(some 14), 16, .call 23 [((.t 12), 0), ((.t 13), 0)], none, []⟩, ⟨(some 1), 3, .mv (.t 14), none, []⟩])
  (.seq (.seq (.ops [⟨(some 15), 17, .mv (.t 1), none, []⟩, ⟨(some 16), 18, .bin .lss (.t 15) (.c (.i .i64 0)), none, []⟩])
  (.cond (.t 16)
  (.seq (.ops [⟨(some 4), 6, .mv (.c (.i .i64 (-1))), none, []⟩])
  .ret)
  .skip))
  (.seq (.ops [⟨(some 17), 19, .faddr 2 1 (.t 2), none, []⟩, ⟨(some 18), 20, .load false 1 (.t 17), none, []⟩, ⟨(some 19), 21, .mv (.t 1), none, []⟩, ⟨(some 20), 22, .call 23 [((.t 18), 0), ((.t 19), 0)], none, []⟩, ⟨(some 1), 3, .mv (.t 20), none, []⟩])
  (.seq (.seq (.ops [⟨(some 21), 23, .mv (.t 1), none, []⟩, ⟨(some 22), 24, .bin .lss (.t 21) (.c (.i .i64 0)), none, []⟩])
  (.cond (.t 22)
  (.seq (.ops [⟨(some 4), 6, .mv (.c (.i .i64 (-1))), none, []⟩])
  .ret)
  .skip))
  (.seq (.ops [⟨(some 23), 25, .mv (.t 1), none, []⟩, ⟨(some 4), 6, .mv (.t 23), none, []⟩])
  .ret))))))))
theorem k6 : compCode Tryz.prog Tryz.f6.ntmps Tryz.f6.body.get! = some c6 := by kernel_rfl
theorem r6 : resTmps Tryz.prog Tryz.f6.results.toList = some [.tmp 4] := by kernel_rfl
def c71 : TCode := (.seq (.ops [⟨(some 1), 3, .box 2 (.t 0), none, []⟩, ⟨(some 2), 4, .box 2 (.c (.ag [(.s ⟨#[]⟩), (.i .i64 0)])), none, []⟩])
  (.seq (.ops [⟨(some 3), 5, .box 2 (.c (.ag [(.s ⟨#[]⟩), (.i .i64 0)])), none, []⟩])
  (.seq (.ops [⟨(some 4), 6, .faddr 0 1 (.t 1), none, []⟩, ⟨(some 5), 7, .load false 1 (.t 4), none, []⟩, ⟨(some 6), 8, .faddr 0 1 (.t 3), none, []⟩, ⟨none, 1002003, .store 1 (.t 6) (.t 5), none, []⟩])
  (.seq (.ops [⟨(some 7), 9, .faddr 1 1 (.t 1), none, []⟩, ⟨(some 8), 10, .load false 1 (.t 7), none, []⟩, ⟨(some 9), 11, .faddr 1 1 (.t 3), none, []⟩, ⟨none, 1003003, .store 1 (.t 9) (.t 8), none, []⟩])
  (.seq (.ops [⟨(some 10), 12, .load true 2 (.t 3), none, []⟩, ⟨none, 1004001, .store 2 (.t 2) (.t 10), none, []⟩])
  .ret)))))
theorem k71 : compCode Tryz.prog Tryz.f71.ntmps Tryz.f71.body.get! = some c71 := by kernel_rfl
theorem r71 : resTmps Tryz.prog Tryz.f71.results.toList = some [.cell 2 true 2] := by kernel_rfl
def c30 : TCode := (.seq (.ops [⟨(some 2), 4, .mv (.c (.sl true 2 [])), none, []⟩])
  (.seq (.ops [⟨(some 5), 7, .mv (.t 0), none, []⟩, ⟨(some 6), 8, .len false (.t 5), none, []⟩, ⟨(some 7), 9, .mkslice 2 24 [(.s ⟨#[]⟩), (.i .i64 0)] (.t 6) (.t 6), none, []⟩, ⟨(some 3), 5, .mv (.t 7), none, []⟩])
  (.seq (.seq (.ops [⟨(some 4), 6, .mv (.c (.i .i64 0)), none, []⟩])
  (.block 0 (.loop (.seq (.seq (.ops [⟨(some 8), 10, .mv (.t 4), none, []⟩, ⟨(some 9), 11, .mv (.t 0), none, []⟩, ⟨(some 10), 12, .len false (.t 9), none, []⟩, ⟨(some 11), 13, .bin .lss (.t 8) (.t 10), none, []⟩])
  (.cond (.t 11)
  .skip
  (.exit 0)))
  (.seq (.block 1 (.ops [⟨(some 14), 16, .mv (.t 3), none, []⟩, ⟨(some 15), 17, .mv (.t 4), none, []⟩, ⟨(some 16), 18, .mv (.t 0), none, []⟩, ⟨(some 17), 19, .mv (.t 4), none, []⟩, ⟨(some 18), 20, .iaddr 2 (.t 16) (.t 17), none, []⟩, ⟨(some 19), 21, .load true 2 (.t 18), none, []⟩, ⟨(some 20), 22, .call 71 [((.t 19), 0)], none, []⟩, ⟨(some 21), 23, .iaddr 2 (.t 14) (.t 15), none, []⟩, ⟨none, 1005008, .store 2 (.t 21) (.t 20), none, []⟩]))
  (.ops [⟨(some 12), 14, .mv (.t 4), none, []⟩, ⟨(some 13), 15, .bin .add (.t 12) (.c (.i .i64 1)), none, []⟩, ⟨(some 4), 6, .mv (.t 13), none, []⟩]))))))
  (.seq (.ops [⟨(some 22), 24, .mv (.t 3), none, []⟩, ⟨(some 2), 4, .mv (.t 22), none, []⟩])
  .ret))))
theorem k30 : compCode Tryz.prog Tryz.f30.ntmps Tryz.f30.body.get! = some c30 := by kernel_rfl
theorem r30 : resTmps Tryz.prog Tryz.f30.results.toList = some [.tmp 2] := by kernel_rfl
def c9 : TCode := (.seq (.ops [⟨(some 1), 3, .box 3 (.t 0), none, []⟩, ⟨(some 2), 4, .box 3 (.c (.ag [(.sl true 2 []), (.sl true 2 []), (.sl true 2 [])])), none, []⟩])
  (.seq (.ops [⟨(some 3), 5, .box 3 (.c (.ag [(.sl true 2 []), (.sl true 2 []), (.sl true 2 [])])), none, []⟩])
  (.seq (.ops [⟨(some 4), 6, .faddr 0 1 (.t 1), none, []⟩, ⟨(some 5), 7, .load false 1 (.t 4), none, []⟩, ⟨(some 6), 8, .call 30 [((.t 5), 0)], none, []⟩, ⟨(some 7), 9, .faddr 0 1 (.t 3), none, []⟩, ⟨none, 1002004, .store 1 (.t 7) (.t 6), none, []⟩])
  (.seq (.ops [⟨(some 8), 10, .faddr 1 1 (.t 1), none, []⟩, ⟨(some 9), 11, .load false 1 (.t 8), none, []⟩, ⟨(some 10), 12, .call 30 [((.t 9), 0)], none, []⟩, ⟨(some 11), 13, .faddr 1 1 (.t 3), none, []⟩, ⟨none, 1003004, .store 1 (.t 11) (.t 10), none, []⟩])
  (.seq (.ops [⟨(some 12), 14, .faddr 2 1 (.t 1), none, []⟩, ⟨(some 13), 15, .load false 1 (.t 12), none, []⟩, ⟨(some 14), 16, .call 30 [((.t 13), 0)], none, []⟩, ⟨(some 15), 17, .faddr 2 1 (.t 3), none, []⟩, ⟨none, 1004004, .store 1 (.t 15) (.t 14), none, []⟩])
  (.seq (.ops [⟨(some 16), 18, .load true 3 (.t 3), none, []⟩, ⟨none, 1005001, .store 3 (.t 2) (.t 16), none, []⟩])
  .ret))))))
theorem k9 : compCode Tryz.prog Tryz.f9.ntmps Tryz.f9.body.get! = some c9 := by kernel_rfl
theorem r9 : resTmps Tryz.prog Tryz.f9.results.toList = some [.cell 2 true 3] := by kernel_rfl
def c90 : TCode := (.seq (.ops [⟨(some 2), 4, .box 2 (.t 0), none, []⟩, ⟨(some 3), 5, .box 2 (.t 1), none, []⟩, ⟨(some 4), 6, .mv (.c (.b false)), none, []⟩])
  (.seq (.seq (.ops [⟨(some 5), 7, .faddr 0 1 (.t 2), none, []⟩, ⟨(some 6), 8, .load false 1 (.t 5), none, []⟩, ⟨(some 7), 9, .faddr 0 1 (.t 3), none, []⟩, ⟨(some 8), 10, .load false 1 (.t 7), none, []⟩, ⟨(some 9), 11, .bin .neq (.t 6) (.t 8), none, []⟩])
  (.cond (.t 9)
  (.seq (.ops [⟨(some 4), 6, .mv (.c (.b false)), none, []⟩])
  .ret)
  .skip))
  (.seq (.seq (.ops [⟨(some 10), 12, .faddr 1 1 (.t 2), none, []⟩, ⟨(some 11), 13, .load false 1 (.t 10), none, []⟩, ⟨(some 12), 14, .faddr 1 1 (.t 3), none, []⟩, ⟨(some 13), 15, .load false 1 (.t 12), none, []⟩, ⟨(some 14), 16, .bin .neq (.t 11) (.t 13), none, []⟩])
  (.cond (.t 14)
  (.seq (.ops [⟨(some 4), 6, .mv (.c (.b false)), none, []⟩])
  .ret)
  .skip))
  (.seq (.ops [⟨(some 4), 6, .mv (.c (.b true)), none, []⟩])
  .ret))))
theorem k90 : compCode Tryz.prog Tryz.f90.ntmps Tryz.f90.body.get! = some c90 := by kernel_rfl
theorem r90 : resTmps Tryz.prog Tryz.f90.results.toList = some [.tmp 4] := by kernel_rfl
def c40 : TCode := (.seq (.ops [⟨(some 4), 6, .mv (.c (.b false)), none, []⟩])
  (.seq (.seq (.ops [⟨(some 6), 8, .mv (.t 0), none, []⟩, ⟨(some 7), 9, .len false (.t 6), none, []⟩, ⟨(some 8), 10, .mv (.t 1), none, []⟩, ⟨(some 9), 11, .len false (.t 8), none, []⟩, ⟨(some 10), 12, .bin .neq (.t 7) (.t 9), none, []⟩])
  (.cond (.t 10)
  (.seq (.ops [⟨(some 4), 6, .mv (.c (.b false)), none, []⟩])
  .ret)
  .skip))
  (.seq (.seq (.ops [⟨(some 5), 7, .mv (.c (.i .i64 0)), none, []⟩])
  (.block 0 (.loop (.seq (.seq (.ops [⟨(some 11), 13, .mv (.t 5), none, []⟩, ⟨(some 12), 14, .mv (.t 0), none, []⟩, ⟨(some 13), 15, .len false (.t 12), none, []⟩, ⟨(some 14), 16, .bin .lss (.t 11) (.t 13), none, []⟩])
  (.cond (.t 14)
  .skip
  (.exit 0)))
  (.seq (.block 1 (.seq (.draw [⟨(some 17), 19, .mv (.t 0), none, []⟩, ⟨(some 18), 20, .mv (.t 5), none, []⟩, ⟨(some 19), 21, .iaddr 2 (.t 17) (.t 18), none, []⟩, ⟨(some 20), 22, .load true 2 (.t 19), none, []⟩, ⟨(some 21), 23, .mv (.t 1), none, []⟩, ⟨(some 22), 24, .mv (.t 5), none, []⟩, ⟨(some 23), 25, .iaddr 2 (.t 21) (.t 22), none, []⟩, ⟨(some 24), 26, .load true 2 (.t 23), none, []⟩, ⟨(some 25), 27, .call 90 [((.t 20), 0), ((.t 24), 0)], none, []⟩, ⟨(some 26), 28, .un .not (.t 25), none, []⟩])
  (.cond (.t 26)
  (.seq (.ops [⟨(some 4), 6, .mv (.c (.b false)), none, []⟩])
  .ret)
  .skip)))
  (.ops [⟨(some 15), 17, .mv (.t 5), none, []⟩, ⟨(some 16), 18, .bin .add (.t 15) (.c (.i .i64 1)), none, []⟩, ⟨(some 5), 7, .mv (.t 16), none, []⟩]))))))
  (.seq (.ops [⟨(some 4), 6, .mv (.c (.b true)), none, []⟩])
  .ret))))
theorem k40 : compCode Tryz.prog Tryz.f40.ntmps Tryz.f40.body.get! = some c40 := by kernel_rfl
theorem r40 : resTmps Tryz.prog Tryz.f40.results.toList = some [.tmp 4] := by kernel_rfl
def c14 : TCode := (.seq (.ops [⟨(some 2), 4, .box 3 (.t 0), none, []⟩, ⟨(some 3), 5, .box 3 (.t 1), none, []⟩, ⟨(some 4), 6, .mv (.c (.b false)), none, []⟩])
  (.seq (.seq (.ops [⟨(some 5), 7, .faddr 0 1 (.t 2), none, []⟩, ⟨(some 6), 8, .load false 1 (.t 5), none, []⟩, ⟨(some 7), 9, .faddr 0 1 (.t 3), none, []⟩, ⟨(some 8), 10, .load false 1 (.t 7), none, []⟩, ⟨(some 9), 11, .call 40 [((.t 6), 0), ((.t 8), 0)], none, []⟩, ⟨(some 10), 12, .un .not (.t 9), none, []⟩])
  (.cond (.t 10)
  (.seq (.ops [⟨(some 4), 6, .mv (.c (.b false)), none, []⟩])
  .ret)
  .skip))
  (.seq (.seq (.ops [⟨(some 11), 13, .faddr 1 1 (.t 2), none, []⟩, ⟨(some 12), 14, .load false 1 (.t 11), none, []⟩, ⟨(some 13), 15, .faddr 1 1 (.t 3), none, []⟩, ⟨(some 14), 16, .load false 1 (.t 13), none, []⟩, ⟨(some 15), 17, .call 40 [((.t 12), 0), ((.t 14), 0)], none, []⟩, ⟨(some 16), 18, .un .not (.t 15), none, []⟩])
  (.cond (.t 16)
  (.seq (.ops [⟨(some 4), 6, .mv (.c (.b false)), none, []⟩])
  .ret)
  .skip))
  (.seq (.seq (.ops [⟨(some 17), 19, .faddr 2 1 (.t 2), none, []⟩, ⟨(some 18), 20, .load false 1 (.t 17), none, []⟩, ⟨(some 19), 21, .faddr 2 1 (.t 3), none, []⟩, ⟨(some 20), 22, .load false 1 (.t 19), none, []⟩, ⟨(some 21), 23, .call 40 [((.t 18), 0), ((.t 20), 0)], none, []⟩, ⟨(some 22), 24, .un .not (.t 21), none, []⟩])
  (.cond (.t 22)
  (.seq (.ops [⟨(some 4), 6, .mv (.c (.b false)), none, []⟩])
  .ret)
  .skip))
  (.seq (.ops [⟨(some 4), 6, .mv (.c (.b true)), none, []⟩])
  .ret)))))
theorem k14 : compCode Tryz.prog Tryz.f14.ntmps Tryz.f14.body.get! = some c14 := by kernel_rfl
theorem r14 : resTmps Tryz.prog Tryz.f14.results.toList = some [.tmp 4] := by kernel_rfl
@[simp] def sT (s : ByteArray) : List TV := [.s s]
@[simp] theorem fzL_sT (s : ByteArray) : fzL (sT s) = sT s := rfl
@[simp] theorem fzLL_sT (l : List (ByteArray)) : fzLL (l.map sT) = l.map sT := fzLL_map fzL_sT l
@[simp] theorem noROLL_sT (l : List (ByteArray)) : noROLL (l.map sT) = true := noROLL_map (fun _ => rfl) l
@[simp] theorem noref_sT (l : List (ByteArray)) : (l.map sT).all (·.all noref) = true := noref_map (fun _ => rfl) l
@[simp] theorem srcT_sT (H : Hp) (z : Nat) (l : List (ByteArray)) : srcT H (.sl false z (l.map sT)) = some (z, l.map sT, H, []) := by simp only [srcT, noref_sT, if_true]
abbrev DeclP := ByteArray × Int
@[simp] def dT (d : ByteArray × Int) : List TV := [.s d.1, .i .i64 d.2]
@[simp] theorem fzL_dT (d : ByteArray × Int) : fzL (dT d) = dT d := rfl
@[simp] theorem fzLL_dT (l : List (ByteArray × Int)) : fzLL (l.map dT) = l.map dT := fzLL_map fzL_dT l
@[simp] theorem noROLL_dT (l : List (ByteArray × Int)) : noROLL (l.map dT) = true := noROLL_map (fun _ => rfl) l
@[simp] theorem noref_dT (l : List (ByteArray × Int)) : (l.map dT).all (·.all noref) = true := noref_map (fun _ => rfl) l
@[simp] theorem srcT_dT (H : Hp) (z : Nat) (l : List (ByteArray × Int)) : srcT H (.sl false z (l.map dT)) = some (z, l.map dT, H, []) := by simp only [srcT, noref_dT, if_true]
instance memS (a : ByteArray) (l : List ByteArray) : Decidable (a ∈ l) := decidable_of_iff (l.any (fun x => decide (x = a)) = true) (by simp)
def lettP (n : Int) : Prop := (97 ≤ n ∧ n ≤ 122) ∨ (65 ≤ n ∧ n ≤ 90)
instance (n : Int) : Decidable (lettP n) := by unfold lettP; infer_instance
theorem w129 (n : Int) : Contract Tryz.prog false 129 [.ro] [.i .u8 n] [.b (decide (lettP n))] [] := by
  refine mk_contract [] Tryz.func129 (c := Tryz.f129.body.get!) (by kernel_rfl) k129 r129 (of_decide_eq_true rfl) fun _ => ?_
  unfold c129; simp
  by_cases h1 : 97 ≤ n <;> by_cases h2 : n ≤ 122 <;> by_cases h3 : 65 ≤ n <;> by_cases h4 : n ≤ 90 <;> simp [lettP, h1, h2, h3, h4]
theorem w131 (n : Int) : Contract Tryz.prog false 131 [.ro] [.i .u8 n] [.b (decide (lettP n))] [] := by
  refine mk_contract [] Tryz.func131 (c := Tryz.f131.body.get!) (by kernel_rfl) k131 r131 (of_decide_eq_true rfl) fun _ => ?_
  unfold c131; simp
  by_cases h1 : 97 ≤ n <;> by_cases h2 : n ≤ 122 <;> by_cases h3 : 65 ≤ n <;> by_cases h4 : n ≤ 90 <;> simp [lettP, h1, h2, h3, h4]
def words : List ByteArray := [⟨#[115, 121, 115, 116, 101, 109]⟩, ⟨#[102, 110]⟩, ⟨#[108, 101, 116]⟩, ⟨#[105, 102]⟩, ⟨#[101, 108, 115, 101]⟩, ⟨#[108, 111, 111, 112]⟩, ⟨#[101, 97, 99, 104]⟩, ⟨#[119, 105, 116, 104]⟩, ⟨#[119, 105, 116, 104, 111, 117, 116]⟩, ⟨#[101, 109, 105, 116]⟩, ⟨#[104, 101, 97, 114]⟩, ⟨#[97, 115]⟩, ⟨#[115, 112, 97, 119, 110]⟩, ⟨#[107, 105, 108, 108]⟩, ⟨#[112, 117, 116]⟩, ⟨#[100, 114, 111, 112]⟩, ⟨#[100, 111]⟩, ⟨#[114, 101, 116, 117, 114, 110]⟩, ⟨#[112, 105, 99, 107]⟩, ⟨#[111, 102]⟩, ⟨#[121, 101, 115]⟩, ⟨#[110, 111]⟩, ⟨#[97, 110, 100]⟩, ⟨#[111, 114]⟩, ⟨#[110, 111, 116]⟩, ⟨#[105, 110, 116]⟩, ⟨#[114, 101, 97, 108]⟩, ⟨#[112, 97, 105, 114]⟩, ⟨#[98, 111, 111, 108]⟩, ⟨#[114, 101]⟩, ⟨#[105, 109]⟩, ⟨#[115, 105, 122, 101]⟩]
theorem words_len : words.length = 32 := rfl
theorem w138  : Contract Tryz.prog false 138 [] [] [.sl true 1 (words.map sT)] [] := by
  refine mk_contract [] Tryz.func138 (c := Tryz.f138.body.get!) (by kernel_rfl) k138 r138 (of_decide_eq_true rfl) fun _ => ?_
  unfold c138; simp [words]
theorem w130 (a : ByteArray) : Contract Tryz.prog false 130 [.ro] [.s a] [.b (decide (a ∈ words))] [] := by
  refine mk_contract [] Tryz.func130 (c := Tryz.f130.body.get!) (by kernel_rfl) k130 r130 (of_decide_eq_true rfl) fun _ => ?_
  unfold c130; simp
  refine callW_ms [] ?_
  simp
  refine callX_of (w138 ) (by simp) ?_
  simp
  have hwl := words_len
  generalize words = W at hwl
  refine twp_for W.length (fun j s => s.t 0 = .s a ∧ s.t 3 = .rf [(7, 0)] 0 W.length ∧ s.t 4 = .i .i64 j ∧ a ∉ W.take j ∧ s.H = lk [(1, []), (7, [.sl true 1 (W.map sT)])]) [] (by simp) ?_ ?_
  · simp
  · rintro j s hj ⟨q0, q3, q4, hn, qH⟩
    rw [nf_of qH]
    simp [q0, q3, q4]
    refine ⟨fun hlt => ?_, fun hge => ?_⟩
    · have hw : IntKind.i64.wrap (j + 1) = j + 1 := wrap_id (by omega) (by omega)
      obtain ⟨x, hx⟩ := get_some hlt
      simp [hx, hw, q0, q3, q4]
      refine ⟨hlt, fun h => by subst h; exact List.mem_of_getElem? hx, fun h => ⟨hlt, ?_⟩⟩
      rw [take_snoc hx]; simp; exact ⟨hn, fun h2 => h h2.symm⟩
    · obtain rfl : j = W.length := by omega
      rw [List.take_of_length_le (Nat.le_refl _)] at hn
      exact hn
set_option maxRecDepth 100000 in
theorem w132 (a : ByteArray) : Contract Tryz.prog false 132 [.ro] [.s a] [.b (decide (a ∈ words))] [] := by
  refine mk_contract [] Tryz.func132 (c := Tryz.f132.body.get!) (by kernel_rfl) k132 r132 (of_decide_eq_true rfl) fun _ => ?_
  unfold c132; simp
  repeat (refine ⟨fun h => by simp [words, h], fun _ => ?_⟩)
  simp [words, *]
def allLet (a : ByteArray) (j : Nat) : Prop := ∀ i < j, ∀ b : UInt8, a[i]? = some b → lettP b.toNat
def nameP (a : ByteArray) : Prop := (1 ≤ a.size ∧ a.size ≤ 12) ∧ allLet a a.size ∧ a ∉ words
noncomputable instance (a : ByteArray) : Decidable (nameP a) := Classical.propDecidable _
theorem get_byte {a : ByteArray} {j : Nat} (h : j < a.size) : ∃ b : UInt8, a[j]? = some b := ⟨a[j], by simp [h]⟩
theorem allLet_succ {a : ByteArray} {j : Nat} {b : UInt8} (h : a[j]? = some b) : allLet a (j + 1) ↔ allLet a j ∧ lettP b.toNat := by
  constructor
  · intro h2; exact ⟨fun i hi => h2 i (by omega), h2 j (by omega) b h⟩
  · rintro ⟨h1, h2⟩ i hi c hc
    rcases Nat.lt_or_ge i j with h3 | h3
    · exact h1 i h3 c hc
    · obtain rfl : i = j := by omega
      rw [h] at hc; cases hc; exact h2
theorem w108 (a : ByteArray) : Contract Tryz.prog false 108 [.ro] [.s a] [.b (decide (nameP a))] [] := by
  refine mk_contract [] Tryz.func108 (c := Tryz.f108.body.get!) (by kernel_rfl) k108 r108 (of_decide_eq_true rfl) fun _ => ?_
  unfold c108; simp
  by_cases hr : 1 ≤ (a.size : Int) ∧ (a.size : Int) ≤ 12
  · refine callW_ms [.ro, .ro, .ro] ?_
    simp
    refine callX_of ((w52 _ _ _).t hr) (by simp) ?_
    simp
    refine twp_for a.size (fun j s => s.t 0 = .s a ∧ s.t 3 = .i .i64 j ∧ allLet a j ∧ s.H = lk [(1, [])]) [] (by simp) ?_ ?_
    · simp [allLet]
    · rintro j s hj ⟨q0, q3, hn, qH⟩
      rw [nf_of qH]
      simp [q0, q3]
      refine ⟨fun hlt => ?_, fun hge => ?_⟩
      · have hw : IntKind.i64.wrap (j + 1) = j + 1 := wrap_id (by omega) (by omega)
        obtain ⟨b, hb⟩ := get_byte hlt
        simp [hb, hw, q0, q3]
        by_cases hl : lettP b.toNat
        · refine callW_ms [.ro] ?_
          simp
          refine callX_of ((w129 b.toNat).t hl) (by simp) ?_
          simp [hw, q0, q3]
          exact ⟨hlt, (allLet_succ hb).2 ⟨hn, hl⟩⟩
        · refine callW_ms [.ro] ?_
          simp
          refine callX_of ((w129 b.toNat).f hl) (by simp) ?_
          simp [hw, q0, q3]
          intro h; exact hl (h.2.1 j hlt b hb)
      · obtain rfl : j = a.size := by omega
        have h1 : 1 ≤ a.size ∧ a.size ≤ 12 := by omega
        refine callW_ms [.ro] ?_
        simp
        refine callX_of (w130 a) (by simp) ?_
        simp [nameP, hn, h1]
  · refine callW_ms [.ro, .ro, .ro] ?_
    simp
    refine callX_of ((w52 _ _ _).f hr) (by simp) ?_
    simp
    intro h; exact hr (by have := h.1; omega)
theorem w114 (a : ByteArray) (ha : a.size ≤ 2^40) : Contract Tryz.prog false 114 [.ro] [.s a] [.b (decide (nameP a))] [] := by
  refine mk_contract [] Tryz.func114 (c := Tryz.f114.body.get!) (by kernel_rfl) k114 r114 (of_decide_eq_true rfl) fun _ => ?_
  unfold c114; simp
  refine twp_for a.size (fun j s => s.t 0 = .s a ∧ s.t 3 = .i .i64 j ∧ allLet a j ∧ s.H = lk [(1, [])]) [] (by simp) ?_ ?_
  · simp [allLet]
  · rintro j s hj ⟨q0, q3, hn, qH⟩
    rw [nf_of qH]
    simp [q0, q3]
    refine ⟨fun hlt => ?_, fun hge => ?_⟩
    · have hw : IntKind.i64.wrap (j + 1) = j + 1 := wrap_id (by omega) (by omega)
      obtain ⟨b, hb⟩ := get_byte hlt
      simp [hb, hw, q0, q3]
      by_cases hl : lettP b.toNat
      · refine callW_ms [.ro] ?_
        simp
        refine callX_of ((w131 b.toNat).t hl) (by simp) ?_
        simp [hw, q0, q3]
        exact ⟨hlt, (allLet_succ hb).2 ⟨hn, hl⟩⟩
      · refine callW_ms [.ro] ?_
        simp
        refine callX_of ((w131 b.toNat).f hl) (by simp) ?_
        simp [hw, q0, q3]
        intro h; exact hl (h.2.1 j hlt b hb)
    · obtain rfl : j = a.size := by omega
      by_cases hr : 1 ≤ (a.size : Int) ∧ (a.size : Int) ≤ 12
      · have h1 : 1 ≤ a.size ∧ a.size ≤ 12 := by omega
        refine callW_ms [.ro, .ro, .ro] ?_
        simp
        refine callX_of ((w54 _ _ _).t hr) (by simp) ?_
        simp [q0, q3]
        refine callW_ms [.ro] ?_
        simp
        refine callX_of (w132 a) (by simp) ?_
        simp [nameP, hn, h1]
      · have h1 : ¬ (1 ≤ a.size ∧ a.size ≤ 12) := by omega
        refine callW_ms [.ro, .ro, .ro] ?_
        simp
        refine callX_of ((w54 _ _ _).f hr) (by simp) ?_
        simp [q0, q3, nameP, h1]
def declT (d : ByteArray × Int) : TV := .ag [.s d.1, .i .i64 d.2]
def szDeclF (d : ByteArray × Int) (n : Int) : Int := szF n d.1.size
theorem w56 (d : ByteArray × Int) (n : Int) (hd : d.1.size < 2^63) (hn : n < 2^62) (hn0 : 0 ≤ n) : Contract Tryz.prog false 56 [.ro, .ro] [declT d, .i .i64 n] [.i .i64 (szDeclF d n)] [] := by
  refine mk_contract [] Tryz.func56 (c := Tryz.f56.body.get!) (by kernel_rfl) k56 r56 (of_decide_eq_true rfl) fun _ => ?_
  have hw : IntKind.i64.wrap (n - d.1.size) = n - d.1.size := wrap_id (by omega) (by omega)
  unfold c56; unfold declT szDeclF szF; simp [hw]
  omega
theorem szDecl_le (d : ByteArray × Int) (n : Int) (h : 0 ≤ n) : szDeclF d n ≤ n := szF_le _ _ (by omega) h
theorem w23 (l : List (ByteArray × Int)) (n : Int) (hl : l.length < 2^63) (hd : ∀ d ∈ l, d.1.size < 2^63) (hn : n < 2^62) (hn0 : 0 ≤ n) : Contract Tryz.prog false 23 [.ro, .ro] [.sl false 2 (l.map dT), .i .i64 n] [.i .i64 (szS szDeclF l n)] [] := by
  refine mk_contract [] Tryz.func23 (c := Tryz.f23.body.get!) (by kernel_rfl) k23 r23 (of_decide_eq_true rfl) fun _ => ?_
  have hw : IntKind.i64.wrap (n - l.length) = n - l.length := wrap_id (by omega) (by omega)
  unfold c23; simp [hw]
  refine ⟨fun h => ?_, fun h => ?_⟩
  · simp [szS, szF, h]
  have e : szF n l.length = n - l.length := by unfold szF; rw [if_neg (by omega)]
  have e2 : szS szDeclF l n = szA szDeclF l (n - l.length) := by unfold szS; rw [e, if_neg (by omega)]
  rw [e2]
  refine twp_for l.length (fun j s => s.t 0 = .sl false 2 (l.map dT) ∧ s.t 1 = .i .i64 (szA szDeclF (l.take j) (n - l.length)) ∧ s.t 5 = .i .i64 j ∧ 0 ≤ szA szDeclF (l.take j) (n - l.length) ∧ s.H = lk [(1, [])]) [] (by simp) ?_ ?_
  · simp; omega
  · rintro j s hj ⟨q0, q1, q5, h0, qH⟩
    rw [nf_of qH]
    simp [q0, q1, q5]
    refine ⟨fun hlt => ?_, fun hge => ?_⟩
    · have hw : IntKind.i64.wrap (j + 1) = j + 1 := wrap_id (by omega) (by omega)
      obtain ⟨x, hx⟩ := get_some hlt
      have hle := (szA_ok szDecl_le (l.take j) _ h0 (by omega)).1
      have hs : szA szDeclF (l.take (j + 1)) (n - l.length) = szDeclF x (szA szDeclF (l.take j) (n - l.length)) := by
        rw [take_snoc hx, szA_snoc, if_neg (by omega)]
      have hng : szDeclF x (szA szDeclF (l.take j) (n - l.length)) < 0 → szDeclF x (szA szDeclF (l.take j) (n - l.length)) = -1 := szF_neg _ _
      have hng2 := szA_take szDeclF l (n - l.length) (j + 1)
      rw [hs] at hng2
      generalize szA szDeclF (l.take j) (n - l.length) = m at *
      simp [hx, hw, q0, q1, q5]
      refine callW_ms [.ro, .ro] ?_
      simp [declT]
      refine callX_of (w56 x m (hd x (List.mem_of_getElem? hx)) (by omega) h0) (by simp) ?_
      simp [hw, q0, q1, q5]
      generalize szDeclF x m = m' at *
      refine ⟨fun h1 => (hng2 (hng h1)).symm, fun h1 => ⟨hlt, by rw [hs], by rw [hs]; omega⟩⟩
    · obtain rfl : j = l.length := by omega
      simp [q0, q1, q5]
theorem w71 (d : ByteArray × Int) : Contract Tryz.prog false 71 [.ro] [declT d] [declT d] [] := by
  refine mk_contract [] Tryz.func71 (c := Tryz.f71.body.get!) (by kernel_rfl) k71 r71 (of_decide_eq_true rfl) fun _ => ?_
  unfold c71; unfold declT; simp
theorem w30 (l : List (ByteArray × Int)) (hl : l.length ≤ 2^40) : Contract Tryz.prog false 30 [.ro] [.sl false 2 (l.map dT)] [.sl true 2 (l.map dT)] [] := by
  refine mk_contract [] Tryz.func30 (c := Tryz.f30.body.get!) (by kernel_rfl) k30 r30 (of_decide_eq_true rfl) fun _ => ?_
  unfold c30; simp
  refine ⟨by omega, ?_⟩
  refine twp_for l.length (fun j s => s.t 0 = .sl false 2 (l.map dT) ∧ s.t 3 = .rf [(9, 0)] 0 l.length ∧ s.t 4 = .i .i64 j ∧ s.H = lk [(1, []), (9, [.sl true 2 ((l.map dT).take j ++ List.replicate (l.length - j) [.s ⟨#[]⟩, .i .i64 0])])]) [] (by simp) ?_ ?_
  · simp
  · rintro j s hj ⟨q0, q3, q4, qH⟩
    rw [nf_of qH]
    simp [q0, q3, q4]
    refine ⟨fun hlt => ?_, fun hge => ?_⟩
    · have hw : IntKind.i64.wrap (j + 1) = j + 1 := wrap_id (by omega) (by omega)
      obtain ⟨x, hx⟩ := get_some hlt
      have hmin : min j l.length = j := by omega
      simp [hx, hw, q0, q3, q4]
      refine callW_ms [.ro] ?_
      simp [declT]
      refine callX_of (w71 x) (by simp) ?_
      simp [declT, hw, q0, q3, q4, rep_at hlt, mapsnoc hx, hmin]
      omega
    · obtain rfl : j = l.length := by omega
      simp [q0, q3, q4]
theorem w90 (d e : ByteArray × Int) : Contract Tryz.prog false 90 [.ro, .ro] [declT d, declT e] [.b (decide (d = e))] [] := by
  refine mk_contract [] Tryz.func90 (c := Tryz.f90.body.get!) (by kernel_rfl) k90 r90 (of_decide_eq_true rfl) fun _ => ?_
  unfold c90; unfold declT; simp
  exact ⟨fun h1 => ⟨fun h2 => Prod.ext h1 h2, fun h2 h3 => h2 (by rw [h3])⟩, fun h1 h2 => h1 (by rw [h2])⟩
theorem w40 (a b : List (ByteArray × Int)) (ha : a.length ≤ 2^40) (hb : b.length ≤ 2^40) : Contract Tryz.prog false 40 [.ro, .ro] [.sl false 2 (a.map dT), .sl false 2 (b.map dT)] [.b (decide (a = b))] [] := by
  refine mk_contract [] Tryz.func40 (c := Tryz.f40.body.get!) (by kernel_rfl) k40 r40 (of_decide_eq_true rfl) fun _ => ?_
  unfold c40; simp
  refine ⟨fun h => ?_, fun h => ?_⟩
  · refine twp_for a.length (fun j s => s.t 0 = .sl false 2 (a.map dT) ∧ s.t 1 = .sl false 2 (b.map dT) ∧ s.t 5 = .i .i64 j ∧ a.take j = b.take j ∧ s.H = lk [(1, [])]) [] (by simp) ?_ ?_
    · simp
    · rintro j s hj ⟨q0, q1, q5, hab, qH⟩
      rw [nf_of qH]
      simp [q0, q1, q5]
      refine ⟨fun hlt => ?_, fun hge => ?_⟩
      · have hw : IntKind.i64.wrap (j + 1) = j + 1 := wrap_id (by omega) (by omega)
        obtain ⟨x, hx⟩ := get_some hlt
        obtain ⟨y, hy⟩ := get_some (l := b) (j := j) (by omega)
        simp [hx, hy, hw, q0, q1, q5]
        by_cases hxy : x = y
        · refine callW_ms [.ro, .ro] ?_
          simp [declT]
          refine callX_of ((w90 x y).t hxy) (by simp) ?_
          simp [hw, q0, q1, q5]
          exact ⟨hlt, by rw [take_snoc hx, take_snoc hy, hab, hxy]⟩
        · refine callW_ms [.ro, .ro] ?_
          simp [declT]
          refine callX_of ((w90 x y).f hxy) (by simp) ?_
          simp [hw, q0, q1, q5]
          intro hab2; subst hab2; rw [hx] at hy; cases hy; exact absurd rfl hxy
      · obtain rfl : j = a.length := by omega
        rw [List.take_of_length_le (Nat.le_refl _), List.take_of_length_le (by omega)] at hab
        exact hab
  · rintro rfl; exact h rfl
def regR (c r e : List (ByteArray × Int)) : TV := .ag [.sl false 2 (c.map dT), .sl false 2 (r.map dT), .sl false 2 (e.map dT)]
def regO (c r e : List (ByteArray × Int)) : TV := .ag [.sl true 2 (c.map dT), .sl true 2 (r.map dT), .sl true 2 (e.map dT)]
theorem szDecl_neg (x : ByteArray × Int) (m : Int) (h : szDeclF x m < 0) : szDeclF x m = -1 := szF_neg _ _ h
def szRegF (c r e : List (ByteArray × Int)) (n : Int) : Int :=
  let a := szS szDeclF c n
  if a < 0 then -1 else
    let b := szS szDeclF r a
    if b < 0 then -1 else szS szDeclF e b
def bndD (l : List (ByteArray × Int)) : Prop := l.length < 2^63 ∧ ∀ d ∈ l, d.1.size < 2^63
def okD (k : Nat) (l : List (ByteArray × Int)) : Prop := l.length ≤ k ∧ ∀ d ∈ l, d.1.size ≤ k
theorem szS_okD {l : List (ByteArray × Int)} {n : Int} {k : Nat} (h0 : 0 ≤ n) (hk : n ≤ k) (h : ¬ szS szDeclF l n < 0) : 0 ≤ szS szDeclF l n ∧ szS szDeclF l n ≤ n ∧ okD k l := by
  obtain ⟨h1, h2, h3, h4⟩ := szS_lo szDecl_le h0 h
  refine ⟨h1, h2, by omega, fun d hd => ?_⟩
  obtain ⟨m, m1, m2, m3⟩ := h4 d hd
  have := (szF_pos (n := m) (k := d.1.size) m3).2
  omega
theorem szRegF_ok {c r e : List (ByteArray × Int)} {n : Int} {k : Nat} (h0 : 0 ≤ n) (hk : n ≤ k) (h : ¬ szRegF c r e n < 0) : 0 ≤ szRegF c r e n ∧ szRegF c r e n ≤ n ∧ okD k c ∧ okD k r ∧ okD k e := by
  simp only [szRegF] at h ⊢
  by_cases h1 : szS szDeclF c n < 0
  · simp [h1] at h
  · obtain ⟨a1, a2, a3⟩ := szS_okD h0 hk h1
    rw [if_neg h1] at h ⊢
    by_cases h2 : szS szDeclF r (szS szDeclF c n) < 0
    · simp [h2] at h
    · obtain ⟨b1, b2, b3⟩ := szS_okD a1 (by omega : szS szDeclF c n ≤ k) h2
      rw [if_neg h2] at h ⊢
      obtain ⟨c1, c2, c3⟩ := szS_okD b1 (by omega : szS szDeclF r (szS szDeclF c n) ≤ k) h
      exact ⟨c1, by omega, a3, b3, c3⟩
theorem w6 (c r e : List (ByteArray × Int)) (n : Int) (hc : bndD c) (hr : bndD r) (he : bndD e) (hn : n < 2^62) (hn0 : 0 ≤ n) : Contract Tryz.prog false 6 [.ro, .ro] [regR c r e, .i .i64 n] [.i .i64 (szRegF c r e n)] [] := by
  refine mk_contract [] Tryz.func6 (c := Tryz.f6.body.get!) (by kernel_rfl) k6 r6 (of_decide_eq_true rfl) fun _ => ?_
  unfold c6; unfold regR szRegF; simp
  refine callW_ms [.ro, .ro] ?_
  simp
  refine callX_of (w23 c n hc.1 hc.2 hn hn0) (by simp) ?_
  simp
  refine ⟨fun h => by intros; omega, fun h => ?_⟩
  obtain ⟨a1, a2, -⟩ := szS_okD (k := 2^62) hn0 (by omega) (by omega : ¬ szS szDeclF c n < 0)
  refine callW_ms [.ro, .ro] ?_
  simp
  refine callX_of (w23 r _ hr.1 hr.2 (by omega) h) (by simp) ?_
  simp
  rw [if_neg (by omega)]
  refine ⟨fun h2 => by intros; omega, fun h2 => ?_⟩
  obtain ⟨b1, b2, -⟩ := szS_okD (k := 2^62) h (by omega) (by omega : ¬ szS szDeclF r (szS szDeclF c n) < 0)
  refine callW_ms [.ro, .ro] ?_
  simp
  refine callX_of (w23 e _ he.1 he.2 (by omega) h2) (by simp) ?_
  simp
  refine ⟨fun h3 _ => (szS_neg szDecl_neg _ _ h3).symm, fun h3 h4 => by omega⟩
theorem w9 (c r e : List (ByteArray × Int)) (hc : c.length ≤ 2^40) (hr : r.length ≤ 2^40) (he : e.length ≤ 2^40) : Contract Tryz.prog false 9 [.ro] [regR c r e] [regO c r e] [] := by
  refine mk_contract [] Tryz.func9 (c := Tryz.f9.body.get!) (by kernel_rfl) k9 r9 (of_decide_eq_true rfl) fun _ => ?_
  unfold c9; unfold regR regO; simp
  refine callW_ms [.ro] ?_
  simp
  refine callX_of (w30 c hc) (by simp) ?_
  simp
  refine callW_ms [.ro] ?_
  simp
  refine callX_of (w30 r hr) (by simp) ?_
  simp
  refine callW_ms [.ro] ?_
  simp
  refine callX_of (w30 e he) (by simp) ?_
  simp
theorem w14 (c r e c' r' e' : List (ByteArray × Int)) (hc : c.length ≤ 2^40) (hr : r.length ≤ 2^40) (he : e.length ≤ 2^40) (hc' : c'.length ≤ 2^40) (hr' : r'.length ≤ 2^40) (he' : e'.length ≤ 2^40) : Contract Tryz.prog false 14 [.ro, .ro] [regR c r e, regR c' r' e'] [.b (decide (c = c' ∧ r = r' ∧ e = e'))] [] := by
  refine mk_contract [] Tryz.func14 (c := Tryz.f14.body.get!) (by kernel_rfl) k14 r14 (of_decide_eq_true rfl) fun _ => ?_
  unfold c14; unfold regR; simp
  refine callW_ms [.ro, .ro] ?_
  simp
  refine callX_of (w40 c c' hc hc') (by simp) ?_
  simp
  refine ⟨fun h => ?_, fun h => ?_⟩
  · refine callW_ms [.ro, .ro] ?_
    simp
    refine callX_of (w40 r r' hr hr') (by simp) ?_
    simp
    refine ⟨fun h2 => ?_, fun h2 => ?_⟩
    · refine callW_ms [.ro, .ro] ?_
      simp
      refine callX_of (w40 e e' he he') (by simp) ?_
      simp [h, h2]
    · simp [h2]
  · simp [h]
end Go.Proofs.YtehmdblkkpdmoaaGreatT


namespace Go.Proofs.YtehmdblkkpdmoaaGreatT
set_option linter.unusedVariables false
set_option linter.unusedSimpArgs false
open Go
def c106 : TCode := (.seq (.ops [⟨(some 4), 6, .mv (.c (.i .i64 0)), none, []⟩])
  (.seq (.ops [⟨(some 5), 7, .mv (.t 1), none, []⟩, ⟨(some 6), 8, .mv (.t 0), none, []⟩, ⟨(some 7), 9, .len false (.t 6), none, []⟩, ⟨(some 8), 10, .bin .sub (.t 5) (.t 7), none, []⟩, ⟨(some 1), 3, .mv (.t 8), none, []⟩])
  (.seq (.seq (.ops [⟨(some 9), 11, .mv (.t 1), none, []⟩, ⟨(some 10), 12, .bin .lss (.t 9) (.c (.i .i64 0)), none, []⟩])
  (.cond (.t 10)
  (.seq (.ops [⟨(some 4), 6, .mv (.c (.i .i64 (-1))), none, []⟩])
  .ret)
  .skip))
  (.seq (.ops [⟨(some 11), 13, .mv (.t 1), none, []⟩, ⟨(some 4), 6, .mv (.t 11), none, []⟩])
  .ret))))
theorem k106 : compCode Tryz.prog Tryz.f106.ntmps Tryz.f106.body.get! = some c106 := by kernel_rfl
theorem r106 : resTmps Tryz.prog Tryz.f106.results.toList = some [.tmp 4] := by kernel_rfl
def c111 : TCode := (.seq (.ops [⟨(some 2), 4, .mv (.c (.sl true 2 [])), none, []⟩])
  (.seq (.ops [⟨(some 5), 7, .mv (.t 0), none, []⟩, ⟨(some 6), 8, .len false (.t 5), none, []⟩, ⟨(some 7), 9, .mkslice 2 16 [(.i .i64 0), (.i .i64 0)] (.t 6) (.t 6), none, []⟩, ⟨(some 3), 5, .mv (.t 7), none, []⟩])
  (.seq (.seq (.ops [⟨(some 4), 6, .mv (.c (.i .i64 0)), none, []⟩])
  (.block 0 (.loop (.seq (.seq (.ops [⟨(some 8), 10, .mv (.t 4), none, []⟩, ⟨(some 9), 11, .mv (.t 0), none, []⟩, ⟨(some 10), 12, .len false (.t 9), none, []⟩, ⟨(some 11), 13, .bin .lss (.t 8) (.t 10), none, []⟩])
  (.cond (.t 11)
  .skip
  (.exit 0)))
  (.seq (.block 1 (.ops [⟨(some 14), 16, .mv (.t 3), none, []⟩, ⟨(some 15), 17, .mv (.t 4), none, []⟩, ⟨(some 16), 18, .mv (.t 0), none, []⟩, ⟨(some 17), 19, .mv (.t 4), none, []⟩, ⟨(some 18), 20, .iaddr 2 (.t 16) (.t 17), none, []⟩, ⟨(some 19), 21, .load true 2 (.t 18), none, []⟩, ⟨(some 20), 22, .call 11 [((.t 19), 0)], none, []⟩, ⟨(some 21), 23, .iaddr 2 (.t 14) (.t 15), none, []⟩, ⟨none, 1005008, .store 2 (.t 21) (.t 20), none, []⟩]))
  (.ops [⟨(some 12), 14, .mv (.t 4), none, []⟩, ⟨(some 13), 15, .bin .add (.t 12) (.c (.i .i64 1)), none, []⟩, ⟨(some 4), 6, .mv (.t 13), none, []⟩]))))))
  (.seq (.ops [⟨(some 22), 24, .mv (.t 3), none, []⟩, ⟨(some 2), 4, .mv (.t 22), none, []⟩])
  .ret))))
theorem k111 : compCode Tryz.prog Tryz.f111.ntmps Tryz.f111.body.get! = some c111 := by kernel_rfl
theorem r111 : resTmps Tryz.prog Tryz.f111.results.toList = some [.tmp 2] := by kernel_rfl
def c107 : TCode := (.seq (.ops [⟨(some 4), 6, .mv (.c (.i .i64 0)), none, []⟩])
  (.seq (.ops [⟨(some 6), 8, .mv (.t 1), none, []⟩, ⟨(some 7), 9, .mv (.t 0), none, []⟩, ⟨(some 8), 10, .len false (.t 7), none, []⟩, ⟨(some 9), 11, .bin .sub (.t 6) (.t 8), none, []⟩, ⟨(some 1), 3, .mv (.t 9), none, []⟩])
  (.seq (.seq (.ops [⟨(some 10), 12, .mv (.t 1), none, []⟩, ⟨(some 11), 13, .bin .lss (.t 10) (.c (.i .i64 0)), none, []⟩])
  (.cond (.t 11)
  (.seq (.ops [⟨(some 4), 6, .mv (.c (.i .i64 (-1))), none, []⟩])
  .ret)
  .skip))
  (.seq (.seq (.ops [⟨(some 5), 7, .mv (.c (.i .i64 0)), none, []⟩])
  (.block 0 (.loop (.seq (.seq (.ops [⟨(some 12), 14, .mv (.t 5), none, []⟩, ⟨(some 13), 15, .mv (.t 0), none, []⟩, ⟨(some 14), 16, .len false (.t 13), none, []⟩, ⟨(some 15), 17, .bin .lss (.t 12) (.t 14), none, []⟩])
  (.cond (.t 15)
  .skip
  (.exit 0)))
  (.seq (.block 1 (.seq (.ops [⟨(some 18), 20, .mv (.t 0), none, []⟩, ⟨(some 19), 21, .mv (.t 5), none, []⟩, ⟨(some 20), 22, .iaddr 1 (.t 18) (.t 19), none, []⟩, ⟨(some 21), 23, .load false 1 (.t 20), none, []⟩, ⟨(some 22), 24, .mv (.t 1), none, []⟩, ⟨(some 23), 25, .call 26 [((.t 21), 0), ((.t 22), 0)], none, []⟩, ⟨(some 1), 3, .mv (.t 23), none, []⟩])
  (.seq (.ops [⟨(some 24), 26, .mv (.t 1), none, []⟩, ⟨(some 25), 27, .bin .lss (.t 24) (.c (.i .i64 0)), none, []⟩])
  (.cond (.t 25)
  (.seq (.ops [⟨(some 4), 6, .mv (.c (.i .i64 (-1))), none, []⟩])
  .ret)
  .skip))))
  (.ops [⟨(some 16), 18, .mv (.t 5), none, []⟩, ⟨(some 17), 19, .bin .add (.t 16) (.c (.i .i64 1)), none, []⟩, ⟨(some 5), 7, .mv (.t 17), none, []⟩]))))))
  (.seq (.ops [⟨(some 26), 28, .mv (.t 1), none, []⟩, ⟨(some 4), 6, .mv (.t 26), none, []⟩])
  .ret)))))
theorem k107 : compCode Tryz.prog Tryz.f107.ntmps Tryz.f107.body.get! = some c107 := by kernel_rfl
theorem r107 : resTmps Tryz.prog Tryz.f107.results.toList = some [.tmp 4] := by kernel_rfl
def c112 : TCode := (.seq (.ops [⟨(some 2), 4, .mv (.c (.sl true 1 [])), none, []⟩])
  (.seq (.ops [⟨(some 5), 7, .mv (.t 0), none, []⟩, ⟨(some 6), 8, .len false (.t 5), none, []⟩, ⟨(some 7), 9, .mkslice 1 24 [(.sl true 4 [])] (.t 6) (.t 6), none, []⟩, ⟨(some 3), 5, .mv (.t 7), none, []⟩])
  (.seq (.seq (.ops [⟨(some 4), 6, .mv (.c (.i .i64 0)), none, []⟩])
  (.block 0 (.loop (.seq (.seq (.ops [⟨(some 8), 10, .mv (.t 4), none, []⟩, ⟨(some 9), 11, .mv (.t 0), none, []⟩, ⟨(some 10), 12, .len false (.t 9), none, []⟩, ⟨(some 11), 13, .bin .lss (.t 8) (.t 10), none, []⟩])
  (.cond (.t 11)
  .skip
  (.exit 0)))
  (.seq (.block 1 (.ops [⟨(some 14), 16, .mv (.t 3), none, []⟩, ⟨(some 15), 17, .mv (.t 4), none, []⟩, ⟨(some 16), 18, .mv (.t 0), none, []⟩, ⟨(some 17), 19, .mv (.t 4), none, []⟩, ⟨(some 18), 20, .iaddr 1 (.t 16) (.t 17), none, []⟩, ⟨(some 19), 21, .load false 1 (.t 18), none, []⟩, ⟨(some 20), 22, .call 33 [((.t 19), 0)], none, []⟩, ⟨(some 21), 23, .iaddr 1 (.t 14) (.t 15), none, []⟩, ⟨none, 1005008, .store 1 (.t 21) (.t 20), none, []⟩]))
  (.ops [⟨(some 12), 14, .mv (.t 4), none, []⟩, ⟨(some 13), 15, .bin .add (.t 12) (.c (.i .i64 1)), none, []⟩, ⟨(some 4), 6, .mv (.t 13), none, []⟩]))))))
  (.seq (.ops [⟨(some 22), 24, .mv (.t 3), none, []⟩, ⟨(some 2), 4, .mv (.t 22), none, []⟩])
  .ret))))
theorem k112 : compCode Tryz.prog Tryz.f112.ntmps Tryz.f112.body.get! = some c112 := by kernel_rfl
theorem r112 : resTmps Tryz.prog Tryz.f112.results.toList = some [.tmp 2] := by kernel_rfl
def c124 : TCode := (.seq (.ops [⟨(some 4), 6, .mv (.c (.b false)), none, []⟩])
  (.seq (.seq (.ops [⟨(some 6), 8, .mv (.t 0), none, []⟩, ⟨(some 7), 9, .len false (.t 6), none, []⟩, ⟨(some 8), 10, .mv (.t 1), none, []⟩, ⟨(some 9), 11, .len false (.t 8), none, []⟩, ⟨(some 10), 12, .bin .neq (.t 7) (.t 9), none, []⟩])
  (.cond (.t 10)
  (.seq (.ops [⟨(some 4), 6, .mv (.c (.b false)), none, []⟩])
  .ret)
  .skip))
  (.seq (.seq (.ops [⟨(some 5), 7, .mv (.c (.i .i64 0)), none, []⟩])
  (.block 0 (.loop (.seq (.seq (.ops [⟨(some 11), 13, .mv (.t 5), none, []⟩, ⟨(some 12), 14, .mv (.t 0), none, []⟩, ⟨(some 13), 15, .len false (.t 12), none, []⟩, ⟨(some 14), 16, .bin .lss (.t 11) (.t 13), none, []⟩])
  (.cond (.t 14)
  .skip
  (.exit 0)))
  (.seq (.block 1 (.seq (.draw [⟨(some 17), 19, .mv (.t 0), none, []⟩, ⟨(some 18), 20, .mv (.t 5), none, []⟩, ⟨(some 19), 21, .iaddr 1 (.t 17) (.t 18), none, []⟩, ⟨(some 20), 22, .load false 1 (.t 19), none, []⟩, ⟨(some 21), 23, .mv (.t 1), none, []⟩, ⟨(some 22), 24, .mv (.t 5), none, []⟩, ⟨(some 23), 25, .iaddr 1 (.t 21) (.t 22), none, []⟩, ⟨(some 24), 26, .load false 1 (.t 23), none, []⟩, ⟨(some 25), 27, .call 39 [((.t 20), 0), ((.t 24), 0)], none, []⟩, ⟨(some 26), 28, .un .not (.t 25), none, []⟩])
  (.cond (.t 26)
  (.seq (.ops [⟨(some 4), 6, .mv (.c (.b false)), none, []⟩])
  .ret)
  .skip)))
  (.ops [⟨(some 15), 17, .mv (.t 5), none, []⟩, ⟨(some 16), 18, .bin .add (.t 15) (.c (.i .i64 1)), none, []⟩, ⟨(some 5), 7, .mv (.t 16), none, []⟩]))))))
  (.seq (.ops [⟨(some 4), 6, .mv (.c (.b true)), none, []⟩])
  .ret))))
theorem k124 : compCode Tryz.prog Tryz.f124.ntmps Tryz.f124.body.get! = some c124 := by kernel_rfl
theorem r124 : resTmps Tryz.prog Tryz.f124.results.toList = some [.tmp 4] := by kernel_rfl
def c58 : TCode := (.seq (.ops [⟨(some 2), 4, .box 3 (.t 0), none, []⟩, ⟨(some 4), 6, .mv (.c (.i .i64 0)), none, []⟩])
  (.seq (.ops [⟨(some 5), 7, .faddr 0 1 (.t 2), none, []⟩, ⟨(some 6), 8, .load false 1 (.t 5), none, []⟩, ⟨(some 7), 9, .mv (.t 1), none, []⟩, ⟨(some 8), 10, .call 57 [((.t 6), 0), ((.t 7), 0)], none, []⟩, ⟨(some 1), 3, .mv (.t 8), none, []⟩])
  (.seq (.seq (.ops [⟨(some 9), 11, .mv (.t 1), none, []⟩, ⟨(some 10), 12, .bin .lss (.t 9) (.c (.i .i64 0)), none, []⟩])
  (.cond (.t 10)
  (.seq (.ops [⟨(some 4), 6, .mv (.c (.i .i64 (-1))), none, []⟩])
  .ret)
  .skip))
  (.seq (.ops [⟨(some 11), 13, .faddr 1 1 (.t 2), none, []⟩, ⟨(some 12), 14, .load false 1 (.t 11), none, []⟩, ⟨(some 13), 15, .mv (.t 1), none, []⟩, ⟨(some 14), 16, .call 106 [((.t 12), 0), ((.t 13), 0)], none, []⟩, ⟨(some 1), 3, .mv (.t 14), none, []⟩])
  (.seq (.seq (.ops [⟨(some 15), 17, .mv (.t 1), none, []⟩, ⟨(some 16), 18, .bin .lss (.t 15) (.c (.i .i64 0)), none, []⟩])
  (.cond (.t 16)
  (.seq (.ops [⟨(some 4), 6, .mv (.c (.i .i64 (-1))), none, []⟩])
  .ret)
  .skip))
  (.seq (.ops [⟨(some 17), 19, .faddr 2 1 (.t 2), none, []⟩, ⟨(some 18), 20, .load false 1 (.t 17), none, []⟩, ⟨(some 19), 21, .mv (.t 1), none, []⟩, ⟨(some 20), 22, .call 107 [((.t 18), 0), ((.t 19), 0)], none, []⟩, ⟨(some 1), 3, .mv (.t 20), none, []⟩])
  (.seq (.seq (.ops [⟨(some 21), 23, .mv (.t 1), none, []⟩, ⟨(some 22), 24, .bin .lss (.t 21) (.c (.i .i64 0)), none, []⟩])
  (.cond (.t 22)
  (.seq (.ops [⟨(some 4), 6, .mv (.c (.i .i64 (-1))), none, []⟩])
  .ret)
  .skip))
  (.seq (.ops [⟨(some 23), 25, .mv (.t 1), none, []⟩, ⟨(some 4), 6, .mv (.t 23), none, []⟩])
  .ret))))))))
theorem k58 : compCode Tryz.prog Tryz.f58.ntmps Tryz.f58.body.get! = some c58 := by kernel_rfl
theorem r58 : resTmps Tryz.prog Tryz.f58.results.toList = some [.tmp 4] := by kernel_rfl
def c73 : TCode := (.seq (.ops [⟨(some 1), 3, .box 3 (.t 0), none, []⟩, ⟨(some 2), 4, .box 3 (.c (.ag [(.sl true 1 []), (.sl true 2 []), (.sl true 1 [])])), none, []⟩])
  (.seq (.ops [⟨(some 3), 5, .box 3 (.c (.ag [(.sl true 1 []), (.sl true 2 []), (.sl true 1 [])])), none, []⟩])
  (.seq (.ops [⟨(some 4), 6, .faddr 0 1 (.t 1), none, []⟩, ⟨(some 5), 7, .load false 1 (.t 4), none, []⟩, ⟨(some 6), 8, .call 72 [((.t 5), 0)], none, []⟩, ⟨(some 7), 9, .faddr 0 1 (.t 3), none, []⟩, ⟨none, 1002004, .store 1 (.t 7) (.t 6), none, []⟩])
  (.seq (.ops [⟨(some 8), 10, .faddr 1 1 (.t 1), none, []⟩, ⟨(some 9), 11, .load false 1 (.t 8), none, []⟩, ⟨(some 10), 12, .call 111 [((.t 9), 0)], none, []⟩, ⟨(some 11), 13, .faddr 1 1 (.t 3), none, []⟩, ⟨none, 1003004, .store 1 (.t 11) (.t 10), none, []⟩])
  (.seq (.ops [⟨(some 12), 14, .faddr 2 1 (.t 1), none, []⟩, ⟨(some 13), 15, .load false 1 (.t 12), none, []⟩, ⟨(some 14), 16, .call 112 [((.t 13), 0)], none, []⟩, ⟨(some 15), 17, .faddr 2 1 (.t 3), none, []⟩, ⟨none, 1004004, .store 1 (.t 15) (.t 14), none, []⟩])
  (.seq (.ops [⟨(some 16), 18, .load true 3 (.t 3), none, []⟩, ⟨none, 1005001, .store 3 (.t 2) (.t 16), none, []⟩])
  .ret))))))
theorem k73 : compCode Tryz.prog Tryz.f73.ntmps Tryz.f73.body.get! = some c73 := by kernel_rfl
theorem r73 : resTmps Tryz.prog Tryz.f73.results.toList = some [.cell 2 true 3] := by kernel_rfl
def c88 : TCode := (.seq (.ops [⟨(some 2), 4, .box 3 (.t 0), none, []⟩, ⟨(some 3), 5, .box 3 (.t 1), none, []⟩, ⟨(some 4), 6, .mv (.c (.b false)), none, []⟩])
  (.seq (.seq (.ops [⟨(some 5), 7, .faddr 0 1 (.t 2), none, []⟩, ⟨(some 6), 8, .load false 1 (.t 5), none, []⟩, ⟨(some 7), 9, .faddr 0 1 (.t 3), none, []⟩, ⟨(some 8), 10, .load false 1 (.t 7), none, []⟩, ⟨(some 9), 11, .call 87 [((.t 6), 0), ((.t 8), 0)], none, []⟩, ⟨(some 10), 12, .un .not (.t 9), none, []⟩])
  (.cond (.t 10)
  (.seq (.ops [⟨(some 4), 6, .mv (.c (.b false)), none, []⟩])
  .ret)
  .skip))
  (.seq (.seq (.ops [⟨(some 11), 13, .faddr 1 1 (.t 2), none, []⟩, ⟨(some 12), 14, .load false 1 (.t 11), none, []⟩, ⟨(some 13), 15, .faddr 1 1 (.t 3), none, []⟩, ⟨(some 14), 16, .load false 1 (.t 13), none, []⟩, ⟨(some 15), 17, .call 123 [((.t 12), 0), ((.t 14), 0)], none, []⟩, ⟨(some 16), 18, .un .not (.t 15), none, []⟩])
  (.cond (.t 16)
  (.seq (.ops [⟨(some 4), 6, .mv (.c (.b false)), none, []⟩])
  .ret)
  .skip))
  (.seq (.seq (.ops [⟨(some 17), 19, .faddr 2 1 (.t 2), none, []⟩, ⟨(some 18), 20, .load false 1 (.t 17), none, []⟩, ⟨(some 19), 21, .faddr 2 1 (.t 3), none, []⟩, ⟨(some 20), 22, .load false 1 (.t 19), none, []⟩, ⟨(some 21), 23, .call 124 [((.t 18), 0), ((.t 20), 0)], none, []⟩, ⟨(some 22), 24, .un .not (.t 21), none, []⟩])
  (.cond (.t 22)
  (.seq (.ops [⟨(some 4), 6, .mv (.c (.b false)), none, []⟩])
  .ret)
  .skip))
  (.seq (.ops [⟨(some 4), 6, .mv (.c (.b true)), none, []⟩])
  .ret)))))
theorem k88 : compCode Tryz.prog Tryz.f88.ntmps Tryz.f88.body.get! = some c88 := by kernel_rfl
theorem r88 : resTmps Tryz.prog Tryz.f88.results.toList = some [.tmp 4] := by kernel_rfl
def c25 : TCode := (.seq (.ops [⟨(some 4), 6, .mv (.c (.i .i64 0)), none, []⟩])
  (.seq (.ops [⟨(some 6), 8, .mv (.t 1), none, []⟩, ⟨(some 7), 9, .mv (.t 0), none, []⟩, ⟨(some 8), 10, .len false (.t 7), none, []⟩, ⟨(some 9), 11, .bin .sub (.t 6) (.t 8), none, []⟩, ⟨(some 1), 3, .mv (.t 9), none, []⟩])
  (.seq (.seq (.ops [⟨(some 10), 12, .mv (.t 1), none, []⟩, ⟨(some 11), 13, .bin .lss (.t 10) (.c (.i .i64 0)), none, []⟩])
  (.cond (.t 11)
  (.seq (.ops [⟨(some 4), 6, .mv (.c (.i .i64 (-1))), none, []⟩])
  .ret)
  .skip))
  (.seq (.seq (.ops [⟨(some 5), 7, .mv (.c (.i .i64 0)), none, []⟩])
  (.block 0 (.loop (.seq (.seq (.ops [⟨(some 12), 14, .mv (.t 5), none, []⟩, ⟨(some 13), 15, .mv (.t 0), none, []⟩, ⟨(some 14), 16, .len false (.t 13), none, []⟩, ⟨(some 15), 17, .bin .lss (.t 12) (.t 14), none, []⟩])
  (.cond (.t 15)
  .skip
  (.exit 0)))
  (.seq (.block 1 (.seq (.ops [⟨(some 18), 20, .mv (.t 0), none, []⟩, ⟨(some 19), 21, .mv (.t 5), none, []⟩, ⟨(some 20), 22, .iaddr 3 (.t 18) (.t 19), none, []⟩, ⟨(some 21), 23, .load true 3 (.t 20), none, []⟩, ⟨(some 22), 24, .mv (.t 1), none, []⟩, ⟨(some 23), 25, .call 58 [((.t 21), 0), ((.t 22), 0)], none, []⟩, ⟨(some 1), 3, .mv (.t 23), none, []⟩])
  (.seq (.ops [⟨(some 24), 26, .mv (.t 1), none, []⟩, ⟨(some 25), 27, .bin .lss (.t 24) (.c (.i .i64 0)), none, []⟩])
  (.cond (.t 25)
  (.seq (.ops [⟨(some 4), 6, .mv (.c (.i .i64 (-1))), none, []⟩])
  .ret)
  .skip))))
  (.ops [⟨(some 16), 18, .mv (.t 5), none, []⟩, ⟨(some 17), 19, .bin .add (.t 16) (.c (.i .i64 1)), none, []⟩, ⟨(some 5), 7, .mv (.t 17), none, []⟩]))))))
  (.seq (.ops [⟨(some 26), 28, .mv (.t 1), none, []⟩, ⟨(some 4), 6, .mv (.t 26), none, []⟩])
  .ret)))))
theorem k25 : compCode Tryz.prog Tryz.f25.ntmps Tryz.f25.body.get! = some c25 := by kernel_rfl
theorem r25 : resTmps Tryz.prog Tryz.f25.results.toList = some [.tmp 4] := by kernel_rfl
def c32 : TCode := (.seq (.ops [⟨(some 2), 4, .mv (.c (.sl true 3 [])), none, []⟩])
  (.seq (.ops [⟨(some 5), 7, .mv (.t 0), none, []⟩, ⟨(some 6), 8, .len false (.t 5), none, []⟩, ⟨(some 7), 9, .mkslice 3 72 [(.sl true 1 []), (.sl true 2 []), (.sl true 1 [])] (.t 6) (.t 6), none, []⟩, ⟨(some 3), 5, .mv (.t 7), none, []⟩])
  (.seq (.seq (.ops [⟨(some 4), 6, .mv (.c (.i .i64 0)), none, []⟩])
  (.block 0 (.loop (.seq (.seq (.ops [⟨(some 8), 10, .mv (.t 4), none, []⟩, ⟨(some 9), 11, .mv (.t 0), none, []⟩, ⟨(some 10), 12, .len false (.t 9), none, []⟩, ⟨(some 11), 13, .bin .lss (.t 8) (.t 10), none, []⟩])
  (.cond (.t 11)
  .skip
  (.exit 0)))
  (.seq (.block 1 (.ops [⟨(some 14), 16, .mv (.t 3), none, []⟩, ⟨(some 15), 17, .mv (.t 4), none, []⟩, ⟨(some 16), 18, .mv (.t 0), none, []⟩, ⟨(some 17), 19, .mv (.t 4), none, []⟩, ⟨(some 18), 20, .iaddr 3 (.t 16) (.t 17), none, []⟩, ⟨(some 19), 21, .load true 3 (.t 18), none, []⟩, ⟨(some 20), 22, .call 73 [((.t 19), 0)], none, []⟩, ⟨(some 21), 23, .iaddr 3 (.t 14) (.t 15), none, []⟩, ⟨none, 1005008, .store 3 (.t 21) (.t 20), none, []⟩]))
  (.ops [⟨(some 12), 14, .mv (.t 4), none, []⟩, ⟨(some 13), 15, .bin .add (.t 12) (.c (.i .i64 1)), none, []⟩, ⟨(some 4), 6, .mv (.t 13), none, []⟩]))))))
  (.seq (.ops [⟨(some 22), 24, .mv (.t 3), none, []⟩, ⟨(some 2), 4, .mv (.t 22), none, []⟩])
  .ret))))
theorem k32 : compCode Tryz.prog Tryz.f32.ntmps Tryz.f32.body.get! = some c32 := by kernel_rfl
theorem r32 : resTmps Tryz.prog Tryz.f32.results.toList = some [.tmp 2] := by kernel_rfl
def c38 : TCode := (.seq (.ops [⟨(some 4), 6, .mv (.c (.b false)), none, []⟩])
  (.seq (.seq (.ops [⟨(some 6), 8, .mv (.t 0), none, []⟩, ⟨(some 7), 9, .len false (.t 6), none, []⟩, ⟨(some 8), 10, .mv (.t 1), none, []⟩, ⟨(some 9), 11, .len false (.t 8), none, []⟩, ⟨(some 10), 12, .bin .neq (.t 7) (.t 9), none, []⟩])
  (.cond (.t 10)
  (.seq (.ops [⟨(some 4), 6, .mv (.c (.b false)), none, []⟩])
  .ret)
  .skip))
  (.seq (.seq (.ops [⟨(some 5), 7, .mv (.c (.i .i64 0)), none, []⟩])
  (.block 0 (.loop (.seq (.seq (.ops [⟨(some 11), 13, .mv (.t 5), none, []⟩, ⟨(some 12), 14, .mv (.t 0), none, []⟩, ⟨(some 13), 15, .len false (.t 12), none, []⟩, ⟨(some 14), 16, .bin .lss (.t 11) (.t 13), none, []⟩])
  (.cond (.t 14)
  .skip
  (.exit 0)))
  (.seq (.block 1 (.seq (.draw [⟨(some 17), 19, .mv (.t 0), none, []⟩, ⟨(some 18), 20, .mv (.t 5), none, []⟩, ⟨(some 19), 21, .iaddr 3 (.t 17) (.t 18), none, []⟩, ⟨(some 20), 22, .load true 3 (.t 19), none, []⟩, ⟨(some 21), 23, .mv (.t 1), none, []⟩, ⟨(some 22), 24, .mv (.t 5), none, []⟩, ⟨(some 23), 25, .iaddr 3 (.t 21) (.t 22), none, []⟩, ⟨(some 24), 26, .load true 3 (.t 23), none, []⟩, ⟨(some 25), 27, .call 88 [((.t 20), 0), ((.t 24), 0)], none, []⟩, ⟨(some 26), 28, .un .not (.t 25), none, []⟩])
  (.cond (.t 26)
  (.seq (.ops [⟨(some 4), 6, .mv (.c (.b false)), none, []⟩])
  .ret)
  .skip)))
  (.ops [⟨(some 15), 17, .mv (.t 5), none, []⟩, ⟨(some 16), 18, .bin .add (.t 15) (.c (.i .i64 1)), none, []⟩, ⟨(some 5), 7, .mv (.t 16), none, []⟩]))))))
  (.seq (.ops [⟨(some 4), 6, .mv (.c (.b true)), none, []⟩])
  .ret))))
theorem k38 : compCode Tryz.prog Tryz.f38.ntmps Tryz.f38.body.get! = some c38 := by kernel_rfl
theorem r38 : resTmps Tryz.prog Tryz.f38.results.toList = some [.tmp 4] := by kernel_rfl
def c7 : TCode := (.seq (.ops [⟨(some 2), 4, .box 4 (.t 0), none, []⟩, ⟨(some 4), 6, .mv (.c (.i .i64 0)), none, []⟩])
  (.seq (.ops [⟨(some 5), 7, .faddr 0 2 (.t 2), none, []⟩, ⟨(some 6), 8, .load true 2 (.t 5), none, []⟩, ⟨(some 7), 9, .mv (.t 1), none, []⟩, ⟨(some 8), 10, .call 24 [((.t 6), 0), ((.t 7), 0)], none, []⟩, ⟨(some 1), 3, .mv (.t 8), none, []⟩])
  (.seq (.seq (.ops [⟨(some 9), 11, .mv (.t 1), none, []⟩, ⟨(some 10), 12, .bin .lss (.t 9) (.c (.i .i64 0)), none, []⟩])
  (.cond (.t 10)
  (.seq (.ops [⟨(some 4), 6, .mv (.c (.i .i64 (-1))), none, []⟩])
  .ret)
  .skip))
  (.seq (.ops [⟨(some 11), 13, .faddr 2 1 (.t 2), none, []⟩, ⟨(some 12), 14, .load false 1 (.t 11), none, []⟩, ⟨(some 13), 15, .mv (.t 1), none, []⟩, ⟨(some 14), 16, .call 25 [((.t 12), 0), ((.t 13), 0)], none, []⟩, ⟨(some 1), 3, .mv (.t 14), none, []⟩])
  (.seq (.seq (.ops [⟨(some 15), 17, .mv (.t 1), none, []⟩, ⟨(some 16), 18, .bin .lss (.t 15) (.c (.i .i64 0)), none, []⟩])
  (.cond (.t 16)
  (.seq (.ops [⟨(some 4), 6, .mv (.c (.i .i64 (-1))), none, []⟩])
  .ret)
  .skip))
  (.seq (.ops [⟨(some 17), 19, .faddr 3 1 (.t 2), none, []⟩, ⟨(some 18), 20, .load false 1 (.t 17), none, []⟩, ⟨(some 19), 21, .mv (.t 1), none, []⟩, ⟨(some 20), 22, .call 26 [((.t 18), 0), ((.t 19), 0)], none, []⟩, ⟨(some 1), 3, .mv (.t 20), none, []⟩])
  (.seq (.seq (.ops [⟨(some 21), 23, .mv (.t 1), none, []⟩, ⟨(some 22), 24, .bin .lss (.t 21) (.c (.i .i64 0)), none, []⟩])
  (.cond (.t 22)
  (.seq (.ops [⟨(some 4), 6, .mv (.c (.i .i64 (-1))), none, []⟩])
  .ret)
  .skip))
  (.seq (.ops [⟨(some 23), 25, .mv (.t 1), none, []⟩, ⟨(some 4), 6, .mv (.t 23), none, []⟩])
  .ret))))))))
theorem k7 : compCode Tryz.prog Tryz.f7.ntmps Tryz.f7.body.get! = some c7 := by kernel_rfl
theorem r7 : resTmps Tryz.prog Tryz.f7.results.toList = some [.tmp 4] := by kernel_rfl
def c10 : TCode := (.seq (.ops [⟨(some 1), 3, .box 4 (.t 0), none, []⟩, ⟨(some 2), 4, .box 4 (.c (.ag [(.sl true 1 []), (.sl true 1 []), (.sl true 3 []), (.sl true 4 [])])), none, []⟩])
  (.seq (.ops [⟨(some 3), 5, .box 4 (.c (.ag [(.sl true 1 []), (.sl true 1 []), (.sl true 3 []), (.sl true 4 [])])), none, []⟩])
  (.seq (.ops [⟨(some 4), 6, .faddr 0 2 (.t 1), none, []⟩, ⟨(some 5), 7, .load true 2 (.t 4), none, []⟩, ⟨(some 6), 8, .call 31 [((.t 5), 0)], none, []⟩, ⟨(some 7), 9, .faddr 0 2 (.t 3), none, []⟩, ⟨none, 1002004, .store 2 (.t 7) (.t 6), none, []⟩])
  (.seq (.ops [⟨(some 8), 10, .faddr 2 1 (.t 1), none, []⟩, ⟨(some 9), 11, .load false 1 (.t 8), none, []⟩, ⟨(some 10), 12, .call 32 [((.t 9), 0)], none, []⟩, ⟨(some 11), 13, .faddr 2 1 (.t 3), none, []⟩, ⟨none, 1003004, .store 1 (.t 11) (.t 10), none, []⟩])
  (.seq (.ops [⟨(some 12), 14, .faddr 3 1 (.t 1), none, []⟩, ⟨(some 13), 15, .load false 1 (.t 12), none, []⟩, ⟨(some 14), 16, .call 33 [((.t 13), 0)], none, []⟩, ⟨(some 15), 17, .faddr 3 1 (.t 3), none, []⟩, ⟨none, 1004004, .store 1 (.t 15) (.t 14), none, []⟩])
  (.seq (.ops [⟨(some 16), 18, .load true 4 (.t 3), none, []⟩, ⟨none, 1005001, .store 4 (.t 2) (.t 16), none, []⟩])
  .ret))))))
theorem k10 : compCode Tryz.prog Tryz.f10.ntmps Tryz.f10.body.get! = some c10 := by kernel_rfl
theorem r10 : resTmps Tryz.prog Tryz.f10.results.toList = some [.cell 2 true 4] := by kernel_rfl
def c13 : TCode := (.seq (.ops [⟨(some 2), 4, .box 4 (.t 0), none, []⟩, ⟨(some 3), 5, .box 4 (.t 1), none, []⟩, ⟨(some 4), 6, .mv (.c (.b false)), none, []⟩])
  (.seq (.seq (.ops [⟨(some 5), 7, .faddr 0 2 (.t 2), none, []⟩, ⟨(some 6), 8, .load true 2 (.t 5), none, []⟩, ⟨(some 7), 9, .faddr 0 2 (.t 3), none, []⟩, ⟨(some 8), 10, .load true 2 (.t 7), none, []⟩, ⟨(some 9), 11, .call 37 [((.t 6), 0), ((.t 8), 0)], none, []⟩, ⟨(some 10), 12, .un .not (.t 9), none, []⟩])
  (.cond (.t 10)
  (.seq (.ops [⟨(some 4), 6, .mv (.c (.b false)), none, []⟩])
  .ret)
  .skip))
  (.seq (.seq (.ops [⟨(some 11), 13, .faddr 2 1 (.t 2), none, []⟩, ⟨(some 12), 14, .load false 1 (.t 11), none, []⟩, ⟨(some 13), 15, .faddr 2 1 (.t 3), none, []⟩, ⟨(some 14), 16, .load false 1 (.t 13), none, []⟩, ⟨(some 15), 17, .call 38 [((.t 12), 0), ((.t 14), 0)], none, []⟩, ⟨(some 16), 18, .un .not (.t 15), none, []⟩])
  (.cond (.t 16)
  (.seq (.ops [⟨(some 4), 6, .mv (.c (.b false)), none, []⟩])
  .ret)
  .skip))
  (.seq (.seq (.ops [⟨(some 17), 19, .faddr 3 1 (.t 2), none, []⟩, ⟨(some 18), 20, .load false 1 (.t 17), none, []⟩, ⟨(some 19), 21, .faddr 3 1 (.t 3), none, []⟩, ⟨(some 20), 22, .load false 1 (.t 19), none, []⟩, ⟨(some 21), 23, .call 39 [((.t 18), 0), ((.t 20), 0)], none, []⟩, ⟨(some 22), 24, .un .not (.t 21), none, []⟩])
  (.cond (.t 22)
  (.seq (.ops [⟨(some 4), 6, .mv (.c (.b false)), none, []⟩])
  .ret)
  .skip))
  (.seq (.ops [⟨(some 4), 6, .mv (.c (.b true)), none, []⟩])
  .ret)))))
theorem k13 : compCode Tryz.prog Tryz.f13.ntmps Tryz.f13.body.get! = some c13 := by kernel_rfl
theorem r13 : resTmps Tryz.prog Tryz.f13.results.toList = some [.tmp 4] := by kernel_rfl
theorem fzLL_mapR {α : Type} {f g : α → List TV} (h : ∀ x, fzL (f x) = g x) (l : List α) : fzLL (l.map f) = l.map g := by
  induction l with
  | nil => rfl
  | cons a l ih => simp [fzLL, h, ih]
@[simp] def cvT (v : List ValP) : List TV := [.sl false 4 (v.map vT)]
@[simp] def cvO (v : List ValP) : List TV := [.sl true 4 (v.map vT)]
@[simp] theorem fzL_cvT (v : List ValP) : fzL (cvT v) = cvT v := by simp
@[simp] theorem fzL_cvO (v : List ValP) : fzL (cvO v) = cvT v := by simp
@[simp] theorem fzLL_cvT (l : List (List ValP)) : fzLL (l.map cvT) = l.map cvT := fzLL_map fzL_cvT l
@[simp] theorem fzLL_cvO (l : List (List ValP)) : fzLL (l.map cvO) = l.map cvT := fzLL_mapR fzL_cvO l
@[simp] theorem noROLL_cvO (l : List (List ValP)) : noROLL (l.map cvO) = true := noROLL_map (fun _ => by simp [noROL, noRO]) l
@[simp] theorem noref_cvT (l : List (List ValP)) : (l.map cvT).all (·.all noref) = true := noref_map (fun _ => by simp) l
abbrev EntP := Int × Int
abbrev TableP := List Int × List (Int × Int) × List (List ValP)
@[simp] def tbT (t : TableP) : List TV := [.sl false 1 (t.1.map iT), .sl false 2 (t.2.1.map eT), .sl false 1 (t.2.2.map cvT)]
@[simp] def tbO (t : TableP) : List TV := [.sl true 1 (t.1.map iT), .sl true 2 (t.2.1.map eT), .sl true 1 (t.2.2.map cvO)]
@[simp] theorem fzL_tbT (t : TableP) : fzL (tbT t) = tbT t := by simp
@[simp] theorem fzL_tbO (t : TableP) : fzL (tbO t) = tbT t := by simp
@[simp] theorem fzLL_tbT (l : List TableP) : fzLL (l.map tbT) = l.map tbT := fzLL_map fzL_tbT l
@[simp] theorem fzLL_tbO (l : List TableP) : fzLL (l.map tbO) = l.map tbT := fzLL_mapR fzL_tbO l
@[simp] theorem noROLL_tbO (l : List TableP) : noROLL (l.map tbO) = true := noROLL_map (fun _ => by simp [noROL, noRO]) l
@[simp] theorem noref_tbT (l : List TableP) : (l.map tbT).all (·.all noref) = true := noref_map (fun _ => by simp) l
abbrev tableR (t : TableP) : TV := .ag (tbT t)
abbrev tableO (t : TableP) : TV := .ag (tbO t)
abbrev worldR (g f : List Int) (ts : List TableP) (rs : List ValP) : TV := .ag [.sl false 1 (g.map iT), .sl false 1 (f.map iT), .sl false 3 (ts.map tbT), .sl false 4 (rs.map vT)]
abbrev worldO (g f : List Int) (ts : List TableP) (rs : List ValP) : TV := .ag [.sl true 1 (g.map iT), .sl true 1 (f.map iT), .sl true 3 (ts.map tbO), .sl true 4 (rs.map vT)]
def sumN {α : Type} (c : α → Nat) : List α → Nat
  | [] => 0
  | x :: l => c x + sumN c l
theorem sumN_mem {α : Type} {c : α → Nat} {x : α} : ∀ {l : List α}, x ∈ l → c x ≤ sumN c l
  | y :: l, h => by
    rcases List.mem_cons.1 h with rfl | h
    · simp [sumN]
    · have := sumN_mem (c := c) h; simp only [sumN]; omega
theorem sumN_snoc {α : Type} (c : α → Nat) (l : List α) (x : α) : sumN c (l ++ [x]) = sumN c l + c x := by
  induction l with
  | nil => simp [sumN]
  | cons y l ih => simp [sumN, ih]; omega
theorem sumN_take {α : Type} (c : α → Nat) (l : List α) (j : Nat) : sumN c (l.take j) ≤ sumN c l := by
  induction l generalizing j with
  | nil => simp [sumN]
  | cons y l ih => cases j with
    | zero => simp [sumN]
    | succ j => have := ih j; simp only [List.take_succ_cons, sumN]; omega
structure SzC {α : Type} (f : α → Int → Int) (c : α → Nat) : Prop where
  le : ∀ x m, 0 ≤ m → f x m ≤ m
  neg : ∀ x m, f x m < 0 → f x m = -1
  eq : ∀ x m, 0 ≤ m → 0 ≤ f x m → f x m = m - c x
theorem szA_eq {α : Type} {f : α → Int → Int} {c : α → Nat} (h : SzC f c) : ∀ (l : List α) (n : Int), 0 ≤ n → 0 ≤ szA f l n → szA f l n = n - sumN c l
  | [], n, _, _ => by simp [sumN]
  | x :: l, n, h0, h1 => by
    have e : szA f (x :: l) n = szA f l (f x n) := by show szA f l (if n < 0 then -1 else f x n) = _; rw [if_neg (by omega)]
    rw [e] at h1 ⊢
    have hx : 0 ≤ f x n := by
      rcases Int.lt_or_le (f x n) 0 with h' | h'
      · rw [h.neg x n h', szA_neg f l _ rfl] at h1; omega
      · exact h'
    rw [szA_eq h l _ hx h1, h.eq x n h0 hx]
    simp only [sumN]; omega
theorem szS_C {α : Type} {f : α → Int → Int} {c : α → Nat} (h : SzC f c) : SzC (fun (l : List α) n => szS f l n) (fun l => l.length + sumN c l) := by
  refine ⟨fun l m h0 => ?_, fun l m h1 => szS_neg h.neg l m h1, fun l m h0 h1 => ?_⟩
  · rcases Int.lt_or_le (szS f l m) 0 with h' | h'
    · omega
    · exact (szS_lo h.le h0 (by omega)).2.1
  · obtain ⟨_, _, h4, _⟩ := szS_lo h.le h0 (by omega : ¬ szS f l m < 0)
    have e : szF m l.length = m - l.length := by unfold szF; rw [if_neg (by omega)]
    have e2 : szS f l m = szA f l (m - l.length) := by unfold szS; rw [e, if_neg (by omega)]
    show szS f l m = _
    rw [e2] at h1 ⊢
    rw [szA_eq h l _ (by omega) h1]; omega
theorem szF_C {α : Type} (c : α → Nat) : SzC (fun (x : α) n => szF n (c x)) c := by
  refine ⟨fun x m h => ?_, fun x m h => szF_neg _ _ h, fun x m h0 h => ?_⟩
  · show szF m (c x) ≤ m
    unfold szF; split <;> omega
  · revert h; show 0 ≤ szF m (c x) → szF m (c x) = _
    unfold szF; split <;> omega
def szTwo {α : Type} (f g : α → Int → Int) (x : α) (n : Int) : Int := if f x n < 0 then -1 else g x (f x n)
theorem szTwo_C {α : Type} {f g : α → Int → Int} {c d : α → Nat} (hf : SzC f c) (hg : SzC g d) : SzC (szTwo f g) (fun x => c x + d x) := by
  refine ⟨fun x m h => ?_, fun x m h => ?_, fun x m h0 h => ?_⟩
  · unfold szTwo; split
    · omega
    · have := hf.le x m h; have := hg.le x (f x m) (by omega); omega
  · revert h; unfold szTwo; split
    · omega
    · exact hg.neg _ _
  · revert h; unfold szTwo; split
    · omega
    · intro h1
      rw [hg.eq x _ (by omega) h1, hf.eq x m h0 (by omega)]; omega
theorem w106 (l : List (Int × Int)) (n : Int) (hl : l.length < 2^63) (hn : n < 2^62) (hn0 : 0 ≤ n) : Contract Tryz.prog false 106 [.ro, .ro] [.sl false 2 (l.map eT), .i .i64 n] [.i .i64 (szF n l.length)] [] := by
  refine mk_contract [] Tryz.func106 (c := Tryz.f106.body.get!) (by kernel_rfl) k106 r106 (of_decide_eq_true rfl) fun _ => ?_
  have hw : IntKind.i64.wrap (n - l.length) = n - l.length := wrap_id (by omega) (by omega)
  unfold c106; unfold szF; simp [hw]
  omega
def szVF (v : List ValP) (n : Int) : Int := szF n v.length
theorem szV_C : SzC szVF (fun v => v.length) := szF_C _
theorem w107 (l : List (List ValP)) (n : Int) (hl : l.length < 2^63) (hd : ∀ v ∈ l, v.length < 2^63) (hn : n < 2^62) (hn0 : 0 ≤ n) : Contract Tryz.prog false 107 [.ro, .ro] [.sl false 1 (l.map cvT), .i .i64 n] [.i .i64 (szS szVF l n)] [] := by
  refine mk_contract [] Tryz.func107 (c := Tryz.f107.body.get!) (by kernel_rfl) k107 r107 (of_decide_eq_true rfl) fun _ => ?_
  have hw : IntKind.i64.wrap (n - l.length) = n - l.length := wrap_id (by omega) (by omega)
  unfold c107; simp [hw]
  refine ⟨fun h => ?_, fun h => ?_⟩
  · simp [szS, szF, h]
  have e : szF n l.length = n - l.length := by unfold szF; rw [if_neg (by omega)]
  have e2 : szS szVF l n = szA szVF l (n - l.length) := by unfold szS; rw [e, if_neg (by omega)]
  rw [e2]
  refine twp_for l.length (fun j s => s.t 0 = .sl false 1 (l.map cvT) ∧ s.t 1 = .i .i64 (szA szVF (l.take j) (n - l.length)) ∧ s.t 5 = .i .i64 j ∧ 0 ≤ szA szVF (l.take j) (n - l.length) ∧ s.H = lk [(1, [])]) [] (by simp) ?_ ?_
  · simp; omega
  · rintro j s hj ⟨q0, q1, q5, h0, qH⟩
    rw [nf_of qH]
    simp [q0, q1, q5]
    refine ⟨fun hlt => ?_, fun hge => ?_⟩
    · have hw : IntKind.i64.wrap (j + 1) = j + 1 := wrap_id (by omega) (by omega)
      obtain ⟨x, hx⟩ := get_some hlt
      have hle := (szA_ok szV_C.le (l.take j) _ h0 (by omega)).1
      have hs : szA szVF (l.take (j + 1)) (n - l.length) = szVF x (szA szVF (l.take j) (n - l.length)) := by
        rw [take_snoc hx, szA_snoc, if_neg (by omega)]
      have hng := szV_C.neg x (szA szVF (l.take j) (n - l.length))
      have hng2 := szA_take szVF l (n - l.length) (j + 1)
      rw [hs] at hng2
      generalize szA szVF (l.take j) (n - l.length) = m at *
      simp [hx, hw, q0, q1, q5]
      refine callW_ms [.ro, .ro] ?_
      simp
      refine callX_of (w26 x m (hd x (List.mem_of_getElem? hx)) (by omega) h0) (by simp) ?_
      simp [hw, q0, q1, q5]
      have hu : szF m x.length = szVF x m := rfl
      rw [hu]
      generalize szVF x m = m' at *
      refine ⟨fun h1 => (hng2 (hng h1)).symm, fun h1 => ⟨hlt, by rw [hs], by rw [hs]; omega⟩⟩
    · obtain rfl : j = l.length := by omega
      simp [q0, q1, q5]
def szTF : TableP → Int → Int := szTwo (fun t n => szF n t.1.length) (szTwo (fun t n => szF n t.2.1.length) fun t n => szS szVF t.2.2 n)
def cT (t : TableP) : Nat := t.1.length + (t.2.1.length + (t.2.2.length + sumN (fun v => v.length) t.2.2))
theorem szT_C : SzC szTF cT := by
  have h3 : SzC (fun (t : TableP) n => szS szVF t.2.2 n) (fun t => t.2.2.length + sumN (fun v => v.length) t.2.2) :=
    ⟨fun t m h => (szS_C szV_C).le t.2.2 m h, fun t m h => (szS_C szV_C).neg t.2.2 m h, fun t m h0 h => (szS_C szV_C).eq t.2.2 m h0 h⟩
  exact szTwo_C (szF_C _) (szTwo_C (szF_C _) h3)
def bdT (t : TableP) : Prop := t.1.length < 2^63 ∧ t.2.1.length < 2^63 ∧ t.2.2.length < 2^63 ∧ ∀ v ∈ t.2.2, v.length < 2^63
theorem w58 (t : TableP) (n : Int) (hb : bdT t) (hn : n < 2^62) (hn0 : 0 ≤ n) : Contract Tryz.prog false 58 [.ro, .ro] [tableR t, .i .i64 n] [.i .i64 (szTF t n)] [] := by
  refine mk_contract [] Tryz.func58 (c := Tryz.f58.body.get!) (by kernel_rfl) k58 r58 (of_decide_eq_true rfl) fun _ => ?_
  obtain ⟨b1, b2, b3, b4⟩ := hb
  have e : szTF t n = if szF n t.1.length < 0 then -1 else if szF (szF n t.1.length) t.2.1.length < 0 then -1 else szS szVF t.2.2 (szF (szF n t.1.length) t.2.1.length) := rfl
  have hA := szF_le n t.1.length (by omega) hn0
  unfold c58; simp
  refine callW_ms [.ro, .ro] ?_
  simp
  refine callX_of (w57 t.1 n b1 hn hn0) (by simp) ?_
  simp
  refine ⟨fun h => ?_, fun h => ?_⟩
  · rw [e, if_pos h]
  rw [if_neg (by omega)] at e
  generalize szF n t.1.length = a at *
  have hB := szF_le a t.2.1.length (by omega) h
  refine callW_ms [.ro, .ro] ?_
  simp
  refine callX_of (w106 t.2.1 a b2 (by omega) h) (by simp) ?_
  simp
  refine ⟨fun h => ?_, fun h => ?_⟩
  · rw [e, if_pos h]
  rw [if_neg (by omega)] at e
  generalize szF a t.2.1.length = b at *
  refine callW_ms [.ro, .ro] ?_
  simp
  refine callX_of (w107 t.2.2 b b3 b4 (by omega) h) (by simp) ?_
  simp
  rw [e]
  exact ⟨fun h => (szS_neg szV_C.neg _ _ h).symm, fun _ => rfl⟩
theorem w25 (l : List TableP) (n : Int) (hl : l.length < 2^63) (hd : ∀ t ∈ l, bdT t) (hn : n < 2^62) (hn0 : 0 ≤ n) : Contract Tryz.prog false 25 [.ro, .ro] [.sl false 3 (l.map tbT), .i .i64 n] [.i .i64 (szS szTF l n)] [] := by
  refine mk_contract [] Tryz.func25 (c := Tryz.f25.body.get!) (by kernel_rfl) k25 r25 (of_decide_eq_true rfl) fun _ => ?_
  have hw : IntKind.i64.wrap (n - l.length) = n - l.length := wrap_id (by omega) (by omega)
  unfold c25; simp [hw]
  refine ⟨fun h => ?_, fun h => ?_⟩
  · simp [szS, szF, h]
  have e : szF n l.length = n - l.length := by unfold szF; rw [if_neg (by omega)]
  have e2 : szS szTF l n = szA szTF l (n - l.length) := by unfold szS; rw [e, if_neg (by omega)]
  rw [e2]
  refine twp_for l.length (fun j s => s.t 0 = .sl false 3 (l.map tbT) ∧ s.t 1 = .i .i64 (szA szTF (l.take j) (n - l.length)) ∧ s.t 5 = .i .i64 j ∧ 0 ≤ szA szTF (l.take j) (n - l.length) ∧ s.H = lk [(1, [])]) [] (by simp) ?_ ?_
  · simp; omega
  · rintro j s hj ⟨q0, q1, q5, h0, qH⟩
    rw [nf_of qH]
    simp [q0, q1, q5]
    refine ⟨fun hlt => ?_, fun hge => ?_⟩
    · have hw : IntKind.i64.wrap (j + 1) = j + 1 := wrap_id (by omega) (by omega)
      obtain ⟨x, hx⟩ := get_some hlt
      have hle := (szA_ok szT_C.le (l.take j) _ h0 (by omega)).1
      have hs : szA szTF (l.take (j + 1)) (n - l.length) = szTF x (szA szTF (l.take j) (n - l.length)) := by
        rw [take_snoc hx, szA_snoc, if_neg (by omega)]
      have hng := szT_C.neg x (szA szTF (l.take j) (n - l.length))
      have hng2 := szA_take szTF l (n - l.length) (j + 1)
      rw [hs] at hng2
      generalize szA szTF (l.take j) (n - l.length) = m at *
      simp [hx, hw, q0, q1, q5]
      refine callW_ms [.ro, .ro] ?_
      simp
      refine callX_of (w58 x m (hd x (List.mem_of_getElem? hx)) (by omega) h0) (by simp) ?_
      simp [hw, q0, q1, q5]
      generalize szTF x m = m' at *
      refine ⟨fun h1 => (hng2 (hng h1)).symm, fun h1 => ⟨hlt, by rw [hs], by rw [hs]; omega⟩⟩
    · obtain rfl : j = l.length := by omega
      simp [q0, q1, q5]
abbrev WorldP := List Int × List Int × List TableP × List ValP
def szWF : WorldP → Int → Int := szTwo (fun w n => szEntsF w.1 w.2.1 n) (szTwo (fun w n => szS szTF w.2.2.1 n) fun w n => szF n w.2.2.2.length)
def cW (w : WorldP) : Nat := (w.1.length + w.2.1.length) + ((w.2.2.1.length + sumN cT w.2.2.1) + w.2.2.2.length)
theorem szE_C : SzC (fun (w : WorldP) n => szEntsF w.1 w.2.1 n) (fun w => w.1.length + w.2.1.length) :=
  szTwo_C (f := fun (w : WorldP) n => szF n w.1.length) (g := fun (w : WorldP) n => szF n w.2.1.length) (szF_C _) (szF_C _)
theorem szW_C : SzC szWF cW := by
  have h3 : SzC (fun (w : WorldP) n => szS szTF w.2.2.1 n) (fun w => w.2.2.1.length + sumN cT w.2.2.1) :=
    ⟨fun w m h => (szS_C szT_C).le w.2.2.1 m h, fun w m h => (szS_C szT_C).neg w.2.2.1 m h, fun w m h0 h => (szS_C szT_C).eq w.2.2.1 m h0 h⟩
  exact szTwo_C szE_C (szTwo_C h3 (szF_C _))
def bdW (w : WorldP) : Prop := w.1.length < 2^63 ∧ w.2.1.length < 2^63 ∧ (w.2.2.1.length < 2^63 ∧ ∀ t ∈ w.2.2.1, bdT t) ∧ w.2.2.2.length < 2^63
theorem w7 (w : WorldP) (n : Int) (hb : bdW w) (hn : n < 2^62) (hn0 : 0 ≤ n) : Contract Tryz.prog false 7 [.ro, .ro] [worldR w.1 w.2.1 w.2.2.1 w.2.2.2, .i .i64 n] [.i .i64 (szWF w n)] [] := by
  refine mk_contract [] Tryz.func7 (c := Tryz.f7.body.get!) (by kernel_rfl) k7 r7 (of_decide_eq_true rfl) fun _ => ?_
  obtain ⟨b1, b2, ⟨b3, b4⟩, b5⟩ := hb
  have e : szWF w n = if szEntsF w.1 w.2.1 n < 0 then -1 else if szS szTF w.2.2.1 (szEntsF w.1 w.2.1 n) < 0 then -1 else szF (szS szTF w.2.2.1 (szEntsF w.1 w.2.1 n)) w.2.2.2.length := rfl
  have hA : szEntsF w.1 w.2.1 n ≤ n := szE_C.le w n hn0
  unfold c7; simp
  refine callW_ms [.ro, .ro] ?_
  simp [entsR]
  refine callX_of (w24 w.1 w.2.1 n b1 b2 hn hn0) (by simp) ?_
  simp
  refine ⟨fun h => ?_, fun h => ?_⟩
  · rw [e, if_pos h]
  rw [if_neg (by omega)] at e
  generalize szEntsF w.1 w.2.1 n = a at *
  have hB : szS szTF w.2.2.1 a ≤ a := (szS_C szT_C).le w.2.2.1 a h
  refine callW_ms [.ro, .ro] ?_
  simp
  refine callX_of (w25 w.2.2.1 a b3 b4 (by omega) h) (by simp) ?_
  simp
  refine ⟨fun h => ?_, fun h => ?_⟩
  · rw [e, if_pos h]
  rw [if_neg (by omega)] at e
  generalize szS szTF w.2.2.1 a = b at *
  refine callW_ms [.ro, .ro] ?_
  simp
  refine callX_of (w26 w.2.2.2 b b5 (by omega) h) (by simp) ?_
  simp
  rw [e]
  exact ⟨fun h => (szF_neg _ _ h).symm, fun _ => rfl⟩
theorem w111 (l : List (Int × Int)) (hl : l.length ≤ 2^40) : Contract Tryz.prog false 111 [.ro] [.sl false 2 (l.map eT)] [.sl true 2 (l.map eT)] [] := by
  refine mk_contract [] Tryz.func111 (c := Tryz.f111.body.get!) (by kernel_rfl) k111 r111 (of_decide_eq_true rfl) fun _ => ?_
  unfold c111; simp
  refine ⟨by omega, ?_⟩
  refine twp_for l.length (fun j s => s.t 0 = .sl false 2 (l.map eT) ∧ s.t 3 = .rf [(9, 0)] 0 l.length ∧ s.t 4 = .i .i64 j ∧ s.H = lk [(1, []), (9, [.sl true 2 ((l.map eT).take j ++ List.replicate (l.length - j) [.i .i64 0, .i .i64 0])])]) [] (by simp) ?_ ?_
  · simp
  · rintro j s hj ⟨q0, q3, q4, qH⟩
    rw [nf_of qH]
    simp [q0, q3, q4]
    refine ⟨fun hlt => ?_, fun hge => ?_⟩
    · have hw : IntKind.i64.wrap (j + 1) = j + 1 := wrap_id (by omega) (by omega)
      obtain ⟨x, hx⟩ := get_some hlt
      have hmin : min j l.length = j := by omega
      simp [hx, hw, q0, q3, q4]
      refine callW_ms [.ro] ?_
      simp [entT]
      refine callX_of (w11 x.1 x.2) (by simp) ?_
      simp [entT, hw, q0, q3, q4, rep_at hlt, mapsnoc hx, hmin]
      omega
    · obtain rfl : j = l.length := by omega
      simp [q0, q3, q4]
theorem w112 (l : List (List ValP)) (hl : l.length ≤ 2^40) (hd : ∀ v ∈ l, v.length ≤ 2^40) : Contract Tryz.prog false 112 [.ro] [.sl false 1 (l.map cvT)] [.sl true 1 (l.map cvO)] [] := by
  refine mk_contract [] Tryz.func112 (c := Tryz.f112.body.get!) (by kernel_rfl) k112 r112 (of_decide_eq_true rfl) fun _ => ?_
  unfold c112; simp
  refine ⟨by omega, ?_⟩
  refine twp_for l.length (fun j s => s.t 0 = .sl false 1 (l.map cvT) ∧ s.t 3 = .rf [(9, 0)] 0 l.length ∧ s.t 4 = .i .i64 j ∧ s.H = lk [(1, []), (9, [.sl true 1 ((l.map cvO).take j ++ List.replicate (l.length - j) [.sl true 4 []])])]) [22] (by simp) ?_ ?_
  · simp
  · rintro j s hj ⟨q0, q3, q4, qH⟩
    rw [nf_of qH]
    simp [q0, q3, q4]
    refine ⟨fun hlt => ?_, fun hge => ?_⟩
    · have hw : IntKind.i64.wrap (j + 1) = j + 1 := wrap_id (by omega) (by omega)
      obtain ⟨x, hx⟩ := get_some hlt
      have hmin : min j l.length = j := by omega
      simp [hx, hw, q0, q3, q4]
      refine callW_ms [.ro] ?_
      simp
      refine callX_of (w33 x (hd x (List.mem_of_getElem? hx))) (by simp) ?_
      simp [hw, q0, q3, q4, rep_at hlt, mapsnoc hx, hmin]
      omega
    · obtain rfl : j = l.length := by omega
      simp [q0, q3, q4]
def okT (t : TableP) : Prop := t.1.length ≤ 2^36 ∧ t.2.1.length ≤ 2^36 ∧ t.2.2.length ≤ 2^36 ∧ ∀ v ∈ t.2.2, v.length ≤ 2^36
theorem w73 (t : TableP) (h : okT t) : Contract Tryz.prog false 73 [.ro] [tableR t] [tableO t] [] := by
  refine mk_contract [] Tryz.func73 (c := Tryz.f73.body.get!) (by kernel_rfl) k73 r73 (of_decide_eq_true rfl) fun _ => ?_
  obtain ⟨h1, h2, h3, h4⟩ := h
  unfold c73; simp
  refine callW_ms [.ro] ?_
  simp
  refine callX_of (w72 t.1 (by omega)) (by simp) ?_
  simp
  refine callW_ms [.ro] ?_
  simp
  refine callX_of (w111 t.2.1 (by omega)) (by simp) ?_
  simp
  refine callW_ms [.ro] ?_
  simp
  refine callX_of (w112 t.2.2 (by omega) (fun v hv => by have := h4 v hv; omega)) (by simp) ?_
  simp
theorem w32 (l : List TableP) (hl : l.length ≤ 2^36) (hd : ∀ t ∈ l, okT t) : Contract Tryz.prog false 32 [.ro] [.sl false 3 (l.map tbT)] [.sl true 3 (l.map tbO)] [] := by
  refine mk_contract [] Tryz.func32 (c := Tryz.f32.body.get!) (by kernel_rfl) k32 r32 (of_decide_eq_true rfl) fun _ => ?_
  unfold c32; simp
  refine ⟨by omega, ?_⟩
  refine twp_for l.length (fun j s => s.t 0 = .sl false 3 (l.map tbT) ∧ s.t 3 = .rf [(9, 0)] 0 l.length ∧ s.t 4 = .i .i64 j ∧ s.H = lk [(1, []), (9, [.sl true 3 ((l.map tbO).take j ++ List.replicate (l.length - j) [.sl true 1 [], .sl true 2 [], .sl true 1 []])])]) [22] (by simp) ?_ ?_
  · simp
  · rintro j s hj ⟨q0, q3, q4, qH⟩
    rw [nf_of qH]
    simp [q0, q3, q4]
    refine ⟨fun hlt => ?_, fun hge => ?_⟩
    · have hw : IntKind.i64.wrap (j + 1) = j + 1 := wrap_id (by omega) (by omega)
      obtain ⟨x, hx⟩ := get_some hlt
      have hmin : min j l.length = j := by omega
      simp [hx, hw, q0, q3, q4]
      refine callW_ms [.ro] ?_
      simp
      refine callX_of (w73 x (hd x (List.mem_of_getElem? hx))) (by simp) ?_
      simp [hw, q0, q3, q4, rep_at hlt, mapsnoc hx, hmin]
      omega
    · obtain rfl : j = l.length := by omega
      simp [q0, q3, q4]
def okW (w : WorldP) : Prop := w.1.length ≤ 2^36 ∧ w.2.1.length ≤ 2^36 ∧ (w.2.2.1.length ≤ 2^36 ∧ ∀ t ∈ w.2.2.1, okT t) ∧ w.2.2.2.length ≤ 2^36
theorem szW_ok {w : WorldP} {n : Int} (h0 : 0 ≤ n) (hn : n ≤ 2^36) (h : ¬ szWF w n < 0) : okW w ∧ (cW w : Int) ≤ n := by
  have e := szW_C.eq w n h0 (by omega)
  have hc : (cW w : Int) ≤ n := by omega
  refine ⟨⟨?_, ?_, ⟨?_, fun t ht => ?_⟩, ?_⟩, hc⟩
  · unfold cW at hc; omega
  · unfold cW at hc; omega
  · unfold cW at hc; omega
  · have h1 := sumN_mem (c := cT) ht
    have h2 : cT t ≤ 2^36 := by unfold cW at hc; omega
    refine ⟨?_, ?_, ?_, fun v hv => ?_⟩
    · unfold cT at h2; omega
    · unfold cT at h2; omega
    · unfold cT at h2; omega
    · have h3 : v.length ≤ sumN (fun v : List ValP => v.length) t.2.2 := sumN_mem (c := fun v : List ValP => v.length) hv
      unfold cT at h2; omega
  · unfold cW at hc; omega
theorem w10 (w : WorldP) (h : okW w) : Contract Tryz.prog false 10 [.ro] [worldR w.1 w.2.1 w.2.2.1 w.2.2.2] [worldO w.1 w.2.1 w.2.2.1 w.2.2.2] [] := by
  refine mk_contract [] Tryz.func10 (c := Tryz.f10.body.get!) (by kernel_rfl) k10 r10 (of_decide_eq_true rfl) fun _ => ?_
  obtain ⟨h1, h2, ⟨h3, h4⟩, h5⟩ := h
  unfold c10; simp
  refine callW_ms [.ro] ?_
  simp [entsR]
  refine callX_of (w31 w.1 w.2.1 (by omega) (by omega)) (by simp) ?_
  simp [entsO]
  refine callW_ms [.ro] ?_
  simp
  refine callX_of (w32 w.2.2.1 h3 h4) (by simp) ?_
  simp
  refine callW_ms [.ro] ?_
  simp
  refine callX_of (w33 w.2.2.2 (by omega)) (by simp) ?_
  simp
theorem w124 (l : List (List ValP)) (hl : l.length ≤ 2^40) (hd : ∀ v ∈ l, v.length ≤ 2^40) : Contract Tryz.prog false 124 [.ro, .ro] [.sl false 1 (l.map cvT), .sl false 1 (l.map cvT)] [.b true] [] := by
  refine mk_contract [] Tryz.func124 (c := Tryz.f124.body.get!) (by kernel_rfl) k124 r124 (of_decide_eq_true rfl) fun _ => ?_
  unfold c124; simp
  refine twp_for l.length (fun j s => s.t 0 = .sl false 1 (l.map cvT) ∧ s.t 1 = .sl false 1 (l.map cvT) ∧ s.t 5 = .i .i64 j ∧ s.H = lk [(1, [])]) [] (by simp) ?_ ?_
  · simp
  · rintro j s hj ⟨q0, q1, q5, qH⟩
    rw [nf_of qH]
    simp [q0, q1, q5]
    intro hlt
    have hw : IntKind.i64.wrap (j + 1) = j + 1 := wrap_id (by omega) (by omega)
    obtain ⟨x, hx⟩ := get_some hlt
    simp [hx, hw, q0, q1, q5]
    refine callW_ms [.ro, .ro] ?_
    simp
    refine callX_of (w39 x (hd x (List.mem_of_getElem? hx))) (by simp) ?_
    simp [hw, q0, q1, q5]
    exact hlt
theorem w88 (t : TableP) (h : okT t) : Contract Tryz.prog false 88 [.ro, .ro] [tableR t, tableR t] [.b true] [] := by
  refine mk_contract [] Tryz.func88 (c := Tryz.f88.body.get!) (by kernel_rfl) k88 r88 (of_decide_eq_true rfl) fun _ => ?_
  obtain ⟨h1, h2, h3, h4⟩ := h
  unfold c88; simp
  refine callW_ms [.ro, .ro] ?_
  simp
  refine callX_of (w87 t.1 t.1 (by omega) (by omega)) (by simp) ?_
  simp
  refine callW_ms [.ro, .ro] ?_
  simp
  refine callX_of (w123 t.2.1 t.2.1 (by omega) (by omega)) (by simp) ?_
  simp
  refine callW_ms [.ro, .ro] ?_
  simp
  refine callX_of (w124 t.2.2 (by omega) (fun v hv => by have := h4 v hv; omega)) (by simp) ?_
  simp
theorem w38 (l : List TableP) (hl : l.length ≤ 2^36) (hd : ∀ t ∈ l, okT t) : Contract Tryz.prog false 38 [.ro, .ro] [.sl false 3 (l.map tbT), .sl false 3 (l.map tbT)] [.b true] [] := by
  refine mk_contract [] Tryz.func38 (c := Tryz.f38.body.get!) (by kernel_rfl) k38 r38 (of_decide_eq_true rfl) fun _ => ?_
  unfold c38; simp
  refine twp_for l.length (fun j s => s.t 0 = .sl false 3 (l.map tbT) ∧ s.t 1 = .sl false 3 (l.map tbT) ∧ s.t 5 = .i .i64 j ∧ s.H = lk [(1, [])]) [] (by simp) ?_ ?_
  · simp
  · rintro j s hj ⟨q0, q1, q5, qH⟩
    rw [nf_of qH]
    simp [q0, q1, q5]
    intro hlt
    have hw : IntKind.i64.wrap (j + 1) = j + 1 := wrap_id (by omega) (by omega)
    obtain ⟨x, hx⟩ := get_some hlt
    simp [hx, hw, q0, q1, q5]
    refine callW_ms [.ro, .ro] ?_
    simp
    refine callX_of (w88 x (hd x (List.mem_of_getElem? hx))) (by simp) ?_
    simp [hw, q0, q1, q5]
    exact hlt
theorem w13 (w : WorldP) (h : okW w) : Contract Tryz.prog false 13 [.ro, .ro] [worldR w.1 w.2.1 w.2.2.1 w.2.2.2, worldR w.1 w.2.1 w.2.2.1 w.2.2.2] [.b true] [] := by
  refine mk_contract [] Tryz.func13 (c := Tryz.f13.body.get!) (by kernel_rfl) k13 r13 (of_decide_eq_true rfl) fun _ => ?_
  obtain ⟨h1, h2, ⟨h3, h4⟩, h5⟩ := h
  unfold c13; simp
  refine callW_ms [.ro, .ro] ?_
  simp [entsR]
  refine callX_of (w37 w.1 w.2.1 w.1 w.2.1 (by omega) (by omega) (by omega) (by omega)) (by simp) ?_
  simp
  refine callW_ms [.ro, .ro] ?_
  simp
  refine callX_of (w38 w.2.2.1 h3 h4) (by simp) ?_
  simp
  refine callW_ms [.ro, .ro] ?_
  simp
  refine callX_of (w39 w.2.2.2 (by omega)) (by simp) ?_
  simp
end Go.Proofs.YtehmdblkkpdmoaaGreatT


namespace Go.Proofs.YtehmdblkkpdmoaaGreatT
set_option linter.unusedVariables false
set_option linter.unusedSimpArgs false
open Go
def c66 : TCode := (.seq (.ops [⟨(some 1), 3, .box 3 (.t 0), none, []⟩, ⟨(some 2), 4, .box 3 (.c (.ag [(.sl true 1 []), (.sl true 2 []), (.sl true 1 [])])), none, []⟩])
  (.seq (.draw [⟨(some 5), 7, .bslice 1 0 [(.i .i64 0)] [], none, []⟩, ⟨(some 6), 8, .faddr 0 1 (.t 1), none, [0]⟩, ⟨(some 7), 9, .load false 1 (.t 6), none, [0]⟩, ⟨(some 8), 10, .app 1 8 (.t 5) (.t 7), none, []⟩, ⟨(some 9), 11, .bslice 2 0 [(.i .i64 0), (.i .i64 0)] [], none, [0, 1, 2, 3]⟩, ⟨(some 10), 12, .faddr 1 1 (.t 1), none, [0, 3, 4]⟩, ⟨(some 11), 13, .load false 1 (.t 10), none, [0, 3, 4]⟩, ⟨(some 12), 14, .app 2 16 (.t 9) (.t 11), none, []⟩, ⟨(some 13), 15, .bslice 1 0 [(.sl true 4 [])] [], none, [0, 1, 2, 3, 4, 5, 6, 7]⟩, ⟨(some 14), 16, .build [(.sl true 1 []), (.sl true 2 []), (.sl true 1 [])] [(0, 1, (.t 8)), (1, 1, (.t 12)), (2, 1, (.t 13))], none, []⟩, ⟨(some 3), 5, .box 3 (.c (.ag [(.sl true 1 []), (.sl true 2 []), (.sl true 1 [])])), none, [0, 1, 2, 3, 4, 5, 6, 7, 8, 9]⟩, ⟨none, 1001011, .store 3 (.t 3) (.t 14), none, []⟩])
  (.seq (.seq (.ops [⟨(some 4), 6, .mv (.c (.i .i64 0)), none, []⟩])
  (.block 0 (.loop (.seq (.seq (.ops [⟨(some 15), 17, .mv (.t 4), none, []⟩, ⟨(some 16), 18, .faddr 2 1 (.t 1), none, []⟩, ⟨(some 17), 19, .load false 1 (.t 16), none, []⟩, ⟨(some 18), 20, .len false (.t 17), none, []⟩, ⟨(some 19), 21, .bin .lss (.t 15) (.t 18), none, []⟩])
  (.cond (.t 19)
  .skip
  (.exit 0)))
  (.seq (.block 1 (.draw [⟨(some 22), 24, .faddr 2 1 (.t 3), none, []⟩, ⟨(some 23), 25, .load false 1 (.t 22), none, []⟩, ⟨(some 24), 26, .bslice 4 0 [(.i .i64 0), (.i .i64 0), (.f 0), (.f 0)] [], none, [0, 1]⟩, ⟨(some 25), 27, .faddr 2 1 (.t 1), none, [2]⟩, ⟨(some 26), 28, .load false 1 (.t 25), none, [2]⟩, ⟨(some 27), 29, .mv (.t 4), none, [2]⟩, ⟨(some 28), 30, .iaddr 1 (.t 26) (.t 27), none, [2]⟩, ⟨(some 29), 31, .load false 1 (.t 28), none, [2]⟩, ⟨(some 30), 32, .app 4 32 (.t 24) (.t 29), none, [0, 1]⟩, ⟨(some 31), 33, .bslice 1 1 [(.sl true 4 [])] [(0, (.t 30))], none, [0, 1]⟩, ⟨(some 32), 34, .app 1 24 (.t 23) (.t 31), none, []⟩, ⟨(some 33), 35, .faddr 2 1 (.t 3), none, []⟩, ⟨none, 1005012, .store 1 (.t 33) (.t 32), none, []⟩]))
  (.ops [⟨(some 20), 22, .mv (.t 4), none, []⟩, ⟨(some 21), 23, .bin .add (.t 20) (.c (.i .i64 1)), none, []⟩, ⟨(some 4), 6, .mv (.t 21), none, []⟩]))))))
  (.seq (.ops [⟨(some 34), 36, .load true 3 (.t 3), none, []⟩, ⟨none, 1006001, .store 3 (.t 2) (.t 34), none, []⟩])
  .ret))))
theorem k66 : compCode Tryz.prog Tryz.f66.ntmps Tryz.f66.body.get! = some c66 := by kernel_rfl
theorem r66 : resTmps Tryz.prog Tryz.f66.results.toList = some [.cell 2 true 3] := by kernel_rfl
def c28 : TCode := (.seq (.ops [⟨(some 1), 3, .box 4 (.t 0), none, []⟩, ⟨(some 2), 4, .box 4 (.c (.ag [(.sl true 1 []), (.sl true 1 []), (.sl true 3 []), (.sl true 4 [])])), none, []⟩])
  (.seq (.draw [⟨(some 5), 7, .faddr 0 2 (.t 1), none, []⟩, ⟨(some 6), 8, .load true 2 (.t 5), none, []⟩, ⟨(some 7), 9, .call 65 [((.t 6), 0)], none, []⟩, ⟨(some 8), 10, .bslice 3 0 [(.sl true 1 []), (.sl true 2 []), (.sl true 1 [])] [], none, [0, 1, 2]⟩, ⟨(some 9), 11, .bslice 4 0 [(.i .i64 0), (.i .i64 0), (.f 0), (.f 0)] [], none, [0, 1, 2, 3]⟩, ⟨(some 10), 12, .faddr 3 1 (.t 1), none, [2, 3, 4]⟩, ⟨(some 11), 13, .load false 1 (.t 10), none, [2, 3, 4]⟩, ⟨(some 12), 14, .app 4 32 (.t 9) (.t 11), none, [3]⟩, ⟨(some 13), 15, .build [(.sl true 1 []), (.sl true 1 []), (.sl true 3 []), (.sl true 4 [])] [(0, 2, (.t 7)), (2, 1, (.t 8)), (3, 1, (.t 12))], none, []⟩, ⟨(some 3), 5, .box 4 (.c (.ag [(.sl true 1 []), (.sl true 1 []), (.sl true 3 []), (.sl true 4 [])])), none, [0, 1, 2, 3, 4, 5, 6, 7, 8]⟩, ⟨none, 1001010, .store 4 (.t 3) (.t 13), none, []⟩])
  (.seq (.seq (.ops [⟨(some 4), 6, .mv (.c (.i .i64 0)), none, []⟩])
  (.block 0 (.loop (.seq (.seq (.ops [⟨(some 14), 16, .mv (.t 4), none, []⟩, ⟨(some 15), 17, .faddr 2 1 (.t 1), none, []⟩, ⟨(some 16), 18, .load false 1 (.t 15), none, []⟩, ⟨(some 17), 19, .len false (.t 16), none, []⟩, ⟨(some 18), 20, .bin .lss (.t 14) (.t 17), none, []⟩])
  (.cond (.t 18)
  .skip
  (.exit 0)))
  (.seq (.block 1 (.draw [⟨(some 21), 23, .faddr 2 1 (.t 3), none, []⟩, ⟨(some 22), 24, .load false 1 (.t 21), none, []⟩, ⟨(some 23), 25, .faddr 2 1 (.t 1), none, []⟩, ⟨(some 24), 26, .load false 1 (.t 23), none, []⟩, ⟨(some 25), 27, .mv (.t 4), none, []⟩, ⟨(some 26), 28, .iaddr 3 (.t 24) (.t 25), none, []⟩, ⟨(some 27), 29, .load true 3 (.t 26), none, []⟩, ⟨(some 28), 30, .call 66 [((.t 27), 0)], none, [0, 1]⟩, ⟨(some 29), 31, .bslice 3 1 [(.sl true 1 []), (.sl true 2 []), (.sl true 1 [])] [(0, (.t 28))], none, [0, 1]⟩, ⟨(some 30), 32, .app 3 72 (.t 22) (.t 29), none, []⟩, ⟨(some 31), 33, .faddr 2 1 (.t 3), none, []⟩, ⟨none, 1005011, .store 1 (.t 31) (.t 30), none, []⟩]))
  (.ops [⟨(some 19), 21, .mv (.t 4), none, []⟩, ⟨(some 20), 22, .bin .add (.t 19) (.c (.i .i64 1)), none, []⟩, ⟨(some 4), 6, .mv (.t 20), none, []⟩]))))))
  (.seq (.ops [⟨(some 32), 34, .load true 4 (.t 3), none, []⟩, ⟨none, 1006001, .store 4 (.t 2) (.t 32), none, []⟩])
  .ret))))
theorem k28 : compCode Tryz.prog Tryz.f28.ntmps Tryz.f28.body.get! = some c28 := by kernel_rfl
theorem r28 : resTmps Tryz.prog Tryz.f28.results.toList = some [.cell 2 true 4] := by kernel_rfl
def c76 : TCode := (.seq (.ops [⟨(some 1), 3, .box 3 (.t 0), none, []⟩, ⟨(some 2), 4, .box 3 (.c (.ag [(.sl true 1 []), (.sl true 2 []), (.sl true 1 [])])), none, []⟩])
  (.seq (.draw [⟨(some 6), 8, .faddr 0 1 (.t 1), none, []⟩, ⟨(some 7), 9, .load false 1 (.t 6), none, []⟩, ⟨(some 8), 10, .call 113 [((.t 7), 0)], none, []⟩, ⟨(some 9), 11, .faddr 1 1 (.t 1), none, [2]⟩, ⟨(some 10), 12, .load false 1 (.t 9), none, [2]⟩, ⟨(some 11), 13, .app 2 16 (.c (.sl true 2 [])) (.t 10), none, []⟩, ⟨(some 12), 14, .build [(.sl true 1 []), (.sl true 2 []), (.sl true 1 [])] [(0, 1, (.t 8)), (1, 1, (.t 11))], none, []⟩, ⟨(some 3), 5, .box 3 (.c (.ag [(.sl true 1 []), (.sl true 2 []), (.sl true 1 [])])), none, [0, 1, 2, 3, 4, 5, 6]⟩, ⟨none, 1001008, .store 3 (.t 3) (.t 12), none, []⟩])
  (.seq (.seq (.ops [⟨(some 13), 15, .faddr 2 1 (.t 1), none, []⟩, ⟨(some 14), 16, .load false 1 (.t 13), none, []⟩, ⟨(some 15), 17, .len false (.t 14), none, []⟩, ⟨(some 16), 18, .mv (.c (.i .i64 0)), none, []⟩])
  (.block 0 (.loop (.seq (.ops [⟨(some 17), 19, .bin .lss (.t 16) (.t 15), none, []⟩])
  (.seq (.cond (.t 17)
  .skip
  (.exit 0))
  (.seq (.block 1 (.seq (.ops [⟨(some 18), 20, .iaddr 1 (.t 14) (.t 16), none, []⟩, ⟨(some 19), 21, .load false 1 (.t 18), none, []⟩, ⟨(some 5), 7, .mv (.t 19), none, []⟩])
  (.draw [⟨(some 20), 22, .faddr 2 1 (.t 3), none, []⟩, ⟨(some 21), 23, .load false 1 (.t 20), none, []⟩, ⟨(some 22), 24, .mv (.t 5), none, []⟩, ⟨(some 23), 25, .call 75 [((.t 22), 0)], none, [0, 1]⟩, ⟨(some 24), 26, .bslice 1 1 [(.sl true 4 [])] [(0, (.t 23))], none, [0, 1]⟩, ⟨(some 25), 27, .app 1 24 (.t 21) (.t 24), none, []⟩, ⟨(some 26), 28, .faddr 2 1 (.t 3), none, []⟩, ⟨none, 1005007, .store 1 (.t 26) (.t 25), none, []⟩])))
  (.ops [⟨(some 27), 29, .bin .add (.t 16) (.c (.i .i64 1)), none, []⟩, ⟨(some 16), 18, .mv (.t 27), none, []⟩])))))))
  (.seq (.ops [⟨(some 28), 30, .load true 3 (.t 3), none, []⟩, ⟨none, 1007001, .store 3 (.t 2) (.t 28), none, []⟩])
  .ret))))
theorem k76 : compCode Tryz.prog Tryz.f76.ntmps Tryz.f76.body.get! = some c76 := by kernel_rfl
theorem r76 : resTmps Tryz.prog Tryz.f76.results.toList = some [.cell 2 true 3] := by kernel_rfl
def c34 : TCode := (.seq (.ops [⟨(some 1), 3, .box 4 (.t 0), none, []⟩, ⟨(some 2), 4, .box 4 (.c (.ag [(.sl true 1 []), (.sl true 1 []), (.sl true 3 []), (.sl true 4 [])])), none, []⟩])
  (.seq (.draw [⟨(some 6), 8, .faddr 0 2 (.t 1), none, []⟩, ⟨(some 7), 9, .load true 2 (.t 6), none, []⟩, ⟨(some 8), 10, .call 74 [((.t 7), 0)], none, []⟩, ⟨(some 9), 11, .faddr 3 1 (.t 1), none, [2]⟩, ⟨(some 10), 12, .load false 1 (.t 9), none, [2]⟩, ⟨(some 11), 13, .call 75 [((.t 10), 0)], none, []⟩, ⟨(some 12), 14, .build [(.sl true 1 []), (.sl true 1 []), (.sl true 3 []), (.sl true 4 [])] [(0, 2, (.t 8)), (3, 1, (.t 11))], none, []⟩, ⟨(some 3), 5, .box 4 (.c (.ag [(.sl true 1 []), (.sl true 1 []), (.sl true 3 []), (.sl true 4 [])])), none, [0, 1, 2, 3, 4, 5, 6]⟩, ⟨none, 1001008, .store 4 (.t 3) (.t 12), none, []⟩])
  (.seq (.seq (.ops [⟨(some 13), 15, .faddr 2 1 (.t 1), none, []⟩, ⟨(some 14), 16, .load false 1 (.t 13), none, []⟩, ⟨(some 15), 17, .len false (.t 14), none, []⟩, ⟨(some 16), 18, .mv (.c (.i .i64 0)), none, []⟩])
  (.block 0 (.loop (.seq (.ops [⟨(some 17), 19, .bin .lss (.t 16) (.t 15), none, []⟩])
  (.seq (.cond (.t 17)
  .skip
  (.exit 0))
  (.seq (.block 1 (.seq (.ops [⟨(some 18), 20, .iaddr 3 (.t 14) (.t 16), none, []⟩, ⟨(some 19), 21, .load true 3 (.t 18), none, []⟩, ⟨(some 5), 7, .box 3 (.c (.ag [(.sl true 1 []), (.sl true 2 []), (.sl true 1 [])])), none, []⟩, ⟨none, 1004003, .store 3 (.t 5) (.t 19), none, []⟩])
  (.draw [⟨(some 20), 22, .faddr 2 1 (.t 3), none, []⟩, ⟨(some 21), 23, .load false 1 (.t 20), none, []⟩, ⟨(some 22), 24, .load true 3 (.t 5), none, []⟩, ⟨(some 23), 25, .call 76 [((.t 22), 0)], none, [0, 1]⟩, ⟨(some 24), 26, .bslice 3 1 [(.sl true 1 []), (.sl true 2 []), (.sl true 1 [])] [(0, (.t 23))], none, [0, 1]⟩, ⟨(some 25), 27, .app 3 72 (.t 21) (.t 24), none, []⟩, ⟨(some 26), 28, .faddr 2 1 (.t 3), none, []⟩, ⟨none, 1005007, .store 1 (.t 26) (.t 25), none, []⟩])))
  (.ops [⟨(some 27), 29, .bin .add (.t 16) (.c (.i .i64 1)), none, []⟩, ⟨(some 16), 18, .mv (.t 27), none, []⟩])))))))
  (.seq (.ops [⟨(some 28), 30, .load true 4 (.t 3), none, []⟩, ⟨none, 1007001, .store 4 (.t 2) (.t 28), none, []⟩])
  .ret))))
theorem k34 : compCode Tryz.prog Tryz.f34.ntmps Tryz.f34.body.get! = some c34 := by kernel_rfl
theorem r34 : resTmps Tryz.prog Tryz.f34.results.toList = some [.cell 2 true 4] := by kernel_rfl
theorem w76 (t : TableP) (h : okT t) : Contract Tryz.prog false 76 [.ro] [tableR t] [tableO t] [] := by
  refine mk_contract [] Tryz.func76 (c := Tryz.f76.body.get!) (by kernel_rfl) k76 r76 (of_decide_eq_true rfl) fun _ => ?_
  obtain ⟨h1, h2, h3, h4⟩ := h
  unfold c76; simp
  refine callW_ms [.ro] ?_
  simp
  refine callX_of (w113 t.1 (by omega)) (by simp) ?_
  simp
  refine ⟨by omega, ?_⟩
  refine twp_for t.2.2.length (fun j s => s.t 2 = .pt [(4, 0)] 0 0 ∧ s.t 3 = .pt [(5, 0)] 0 0 ∧ s.t 14 = .sl false 1 (t.2.2.map cvT) ∧ s.t 15 = .i .i64 t.2.2.length ∧ s.t 16 = .i .i64 j ∧ s.H = lk [(1, []), (4, [.po true [.sl true 1 [], .sl true 2 [], .sl true 1 []]]), (5, [.po true [.sl true 1 (t.1.map iT), .sl true 2 (t.2.1.map eT), .sl true 1 ((t.2.2.take j).map cvO)]])]) [3, 10, 13, 25, 26, 27] (by simp) ?_ ?_
  · simp
  · rintro j s hj ⟨q2, q3, q14, q15, q16, qH⟩
    rw [nf_of qH]
    simp [q2, q3, q14, q15, q16]
    refine ⟨fun hlt => ?_, fun hge => ?_⟩
    · have hw : IntKind.i64.wrap (j + 1) = j + 1 := wrap_id (by omega) (by omega)
      obtain ⟨x, hx⟩ := get_some hlt
      have hmin : min j t.2.2.length = j := by omega
      simp [hx, hw, q2, q3, q14, q15, q16, hmin]
      refine callW_ms [.ro] ?_
      simp
      refine callX_of (w75 x (by have := h4 x (List.mem_of_getElem? hx); omega)) (by simp) ?_
      simp [hw, q2, q3, q14, q15, q16, hmin, mapsnoc hx, takeRows]
      omega
    · obtain rfl : j = t.2.2.length := by omega
      simp [q2, q3, q14, q15, q16]
theorem w66 (t : TableP) (h : okT t) : Contract Tryz.prog false 66 [.ro] [tableR t] [tableO t] [] := by
  refine mk_contract [] Tryz.func66 (c := Tryz.f66.body.get!) (by kernel_rfl) k66 r66 (of_decide_eq_true rfl) fun _ => ?_
  obtain ⟨h1, h2, h3, h4⟩ := h
  unfold c66; simp
  refine ⟨by omega, by omega, ?_⟩
  refine twp_for t.2.2.length (fun j s => s.t 1 = .pt [(3, 0)] 0 0 ∧ s.t 2 = .pt [(4, 0)] 0 0 ∧ s.t 3 = .pt [(5, 0)] 0 0 ∧ s.t 4 = .i .i64 j ∧ s.H = lk [(1, []), (3, [.po true [.sl false 1 (t.1.map iT), .sl false 2 (t.2.1.map eT), .sl false 1 (t.2.2.map cvT)]]), (4, [.po true [.sl true 1 [], .sl true 2 [], .sl true 1 []]]), (5, [.po true [.sl true 1 (t.1.map iT), .sl true 2 (t.2.1.map eT), .sl true 1 ((t.2.2.take j).map cvO)]])]) [7, 10, 11, 14, 15, 26, 32, 33, 34] (by simp) ?_ ?_
  · simp
  · rintro j s hj ⟨q1, q2, q3, q4, qH⟩
    rw [nf_of qH]
    simp [q1, q2, q3, q4]
    refine ⟨fun hlt => ?_, fun hge => ?_⟩
    · have hw : IntKind.i64.wrap (j + 1) = j + 1 := wrap_id (by omega) (by omega)
      obtain ⟨x, hx⟩ := get_some hlt
      have hxl := h4 x (List.mem_of_getElem? hx)
      have hmin : min j t.2.2.length = j := by omega
      simp [hx, hw, q1, q2, q3, q4, hmin, mapsnoc hx, takeRows]
      omega
    · obtain rfl : j = t.2.2.length := by omega
      simp [q1, q2, q3, q4]
theorem w34 (w : WorldP) (h : okW w) : Contract Tryz.prog false 34 [.ro] [worldR w.1 w.2.1 w.2.2.1 w.2.2.2] [worldO w.1 w.2.1 w.2.2.1 w.2.2.2] [] := by
  refine mk_contract [] Tryz.func34 (c := Tryz.f34.body.get!) (by kernel_rfl) k34 r34 (of_decide_eq_true rfl) fun _ => ?_
  obtain ⟨h1, h2, ⟨h3, h4⟩, h5⟩ := h
  obtain ⟨g, f, ts, rs⟩ := w
  simp only at h1 h2 h3 h4 h5 ⊢
  unfold c34; simp
  refine callW_ms [.ro] ?_
  simp [entsR]
  refine callX_of (w74 g f (by omega) (by omega)) (by simp) ?_
  simp [entsO]
  refine callW_ms [.ro] ?_
  simp
  refine callX_of (w75 rs (by omega)) (by simp) ?_
  simp
  refine twp_for ts.length (fun j s => s.t 2 = .pt [(4, 0)] 0 0 ∧ s.t 3 = .pt [(5, 0)] 0 0 ∧ s.t 14 = .sl false 3 (ts.map tbT) ∧ s.t 15 = .i .i64 ts.length ∧ s.t 16 = .i .i64 j ∧ s.H = lk [(1, []), (4, [.po true [.sl true 1 [], .sl true 1 [], .sl true 3 [], .sl true 4 []]]), (5, [.po true [.sl true 1 (g.map iT), .sl true 1 (f.map iT), .sl true 3 ((ts.take j).map tbO), .sl true 4 (rs.map vT)]])]) [3, 7, 10, 13, 25, 26, 27] (by simp) ?_ ?_
  · simp
  · rintro j s hj ⟨q2, q3, q14, q15, q16, qH⟩
    rw [nf_of qH]
    simp [q2, q3, q14, q15, q16]
    refine ⟨fun hlt => ?_, fun hge => ?_⟩
    · have hw : IntKind.i64.wrap (j + 1) = j + 1 := wrap_id (by omega) (by omega)
      obtain ⟨x, hx⟩ := get_some hlt
      have hmin : min j ts.length = j := by omega
      simp [hx, hw, q2, q3, q14, q15, q16, hmin]
      refine callW_ms [.ro] ?_
      simp
      refine callX_of (w76 x (h4 x (List.mem_of_getElem? hx))) (by simp) ?_
      simp [hw, q2, q3, q14, q15, q16, hmin, mapsnoc hx, takeRows]
      omega
    · obtain rfl : j = ts.length := by omega
      simp [q2, q3, q14, q15, q16]
theorem w28 (w : WorldP) (h : okW w) : Contract Tryz.prog false 28 [.ro] [worldR w.1 w.2.1 w.2.2.1 w.2.2.2] [worldO w.1 w.2.1 w.2.2.1 w.2.2.2] [] := by
  refine mk_contract [] Tryz.func28 (c := Tryz.f28.body.get!) (by kernel_rfl) k28 r28 (of_decide_eq_true rfl) fun _ => ?_
  obtain ⟨h1, h2, ⟨h3, h4⟩, h5⟩ := h
  obtain ⟨g, f, ts, rs⟩ := w
  simp only at h1 h2 h3 h4 h5 ⊢
  unfold c28; simp
  refine callW_ms [.ro] ?_
  simp [entsR]
  refine callX_of (w65 g f (by omega) (by omega)) (by simp) ?_
  simp [entsO]
  refine ⟨by omega, ?_⟩
  refine twp_for ts.length (fun j s => s.t 1 = .pt [(3, 0)] 0 0 ∧ s.t 2 = .pt [(4, 0)] 0 0 ∧ s.t 3 = .pt [(5, 0)] 0 0 ∧ s.t 4 = .i .i64 j ∧ s.H = lk [(1, []), (3, [.po true [.sl false 1 (g.map iT), .sl false 1 (f.map iT), .sl false 3 (ts.map tbT), .sl false 4 (rs.map vT)]]), (4, [.po true [.sl true 1 [], .sl true 1 [], .sl true 3 [], .sl true 4 []]]), (5, [.po true [.sl true 1 (g.map iT), .sl true 1 (f.map iT), .sl true 3 ((ts.take j).map tbO), .sl true 4 (rs.map vT)]])]) [9, 10, 11, 14, 30, 31, 32] (by simp) ?_ ?_
  · simp
  · rintro j s hj ⟨q1, q2, q3, q4, qH⟩
    rw [nf_of qH]
    simp [q1, q2, q3, q4]
    refine ⟨fun hlt => ?_, fun hge => ?_⟩
    · have hw : IntKind.i64.wrap (j + 1) = j + 1 := wrap_id (by omega) (by omega)
      obtain ⟨x, hx⟩ := get_some hlt
      have hmin : min j ts.length = j := by omega
      simp [hx, hw, q1, q2, q3, q4, hmin]
      refine callW_ms [.ro] ?_
      simp
      refine callX_of (w66 x (h4 x (List.mem_of_getElem? hx))) (by simp) ?_
      simp [hw, q1, q2, q3, q4, hmin, mapsnoc hx, takeRows]
      omega
    · obtain rfl : j = ts.length := by omega
      simp [q1, q2, q3, q4]
end Go.Proofs.YtehmdblkkpdmoaaGreatT


namespace Go.Proofs.YtehmdblkkpdmoaaGreatT
set_option linter.unusedVariables false
set_option linter.unusedSimpArgs false
open Go
def c69 : TCode := (.seq (.ops [⟨(some 3), 5, .box 4 (.t 0), none, []⟩, ⟨(some 6), 8, .box 4 (.c (.ag [(.sl true 1 []), (.sl true 1 []), (.sl true 3 []), (.sl true 4 [])])), none, []⟩])
  (.seq (.ops [⟨(some 9), 11, .faddr 2 1 (.t 3), none, []⟩, ⟨(some 10), 12, .load false 1 (.t 9), none, []⟩, ⟨(some 11), 13, .mv (.t 1), none, []⟩, ⟨(some 12), 14, .iaddr 3 (.t 10) (.t 11), none, []⟩, ⟨(some 13), 15, .faddr 1 1 (.t 12), none, []⟩, ⟨(some 14), 16, .load false 1 (.t 13), none, []⟩, ⟨(some 15), 17, .len false (.t 14), none, []⟩, ⟨(some 16), 18, .bin .sub (.t 15) (.c (.i .i64 1)), none, []⟩, ⟨(some 7), 9, .mv (.t 16), none, []⟩])
  (.seq (.draw [⟨(some 17), 19, .faddr 2 1 (.t 3), none, []⟩, ⟨(some 18), 20, .load false 1 (.t 17), none, []⟩, ⟨(some 19), 21, .mv (.t 1), none, []⟩, ⟨(some 20), 22, .iaddr 3 (.t 18) (.t 19), none, []⟩, ⟨(some 21), 23, .faddr 1 1 (.t 20), none, []⟩, ⟨(some 22), 24, .load false 1 (.t 21), none, []⟩, ⟨(some 23), 25, .mv (.t 2), none, []⟩, ⟨(some 24), 26, .faddr 2 1 (.t 3), none, []⟩, ⟨(some 25), 27, .load false 1 (.t 24), none, []⟩, ⟨(some 26), 28, .mv (.t 1), none, []⟩, ⟨(some 27), 29, .iaddr 3 (.t 25) (.t 26), none, []⟩, ⟨(some 28), 30, .faddr 1 1 (.t 27), none, []⟩, ⟨(some 29), 31, .load false 1 (.t 28), none, []⟩, ⟨(some 30), 32, .mv (.t 7), none, []⟩, ⟨(some 31), 33, .iaddr 2 (.t 29) (.t 30), none, []⟩, ⟨(some 32), 34, .load true 2 (.t 31), none, []⟩, ⟨(some 33), 35, .iaddr 2 (.t 22) (.t 23), none, []⟩, ⟨none, 1002017, .store 2 (.t 33) (.t 32), none, []⟩])
  (.seq (.draw [⟨(some 34), 36, .faddr 2 1 (.t 3), none, []⟩, ⟨(some 35), 37, .load false 1 (.t 34), none, []⟩, ⟨(some 36), 38, .mv (.t 1), none, []⟩, ⟨(some 37), 39, .faddr 2 1 (.t 3), none, []⟩, ⟨(some 38), 40, .load false 1 (.t 37), none, []⟩, ⟨(some 39), 41, .mv (.t 1), none, []⟩, ⟨(some 40), 42, .iaddr 3 (.t 38) (.t 39), none, []⟩, ⟨(some 41), 43, .faddr 1 1 (.t 40), none, []⟩, ⟨(some 42), 44, .load false 1 (.t 41), none, []⟩, ⟨(some 43), 45, .mv (.t 7), none, []⟩, ⟨(some 44), 46, .slice false 2 (.t 42) none (some (.t 43)), none, []⟩, ⟨(some 45), 47, .iaddr 3 (.t 35) (.t 36), none, []⟩, ⟨(some 46), 48, .faddr 1 1 (.t 45), none, []⟩, ⟨none, 1003013, .store 1 (.t 46) (.t 44), none, []⟩])
  (.seq (.seq (.ops [⟨(some 8), 10, .mv (.c (.i .i64 0)), none, []⟩])
  (.block 0 (.loop (.seq (.seq (.ops [⟨(some 47), 49, .mv (.t 8), none, []⟩, ⟨(some 48), 50, .faddr 2 1 (.t 3), none, []⟩, ⟨(some 49), 51, .load false 1 (.t 48), none, []⟩, ⟨(some 50), 52, .mv (.t 1), none, []⟩, ⟨(some 51), 53, .iaddr 3 (.t 49) (.t 50), none, []⟩, ⟨(some 52), 54, .faddr 2 1 (.t 51), none, []⟩, ⟨(some 53), 55, .load false 1 (.t 52), none, []⟩, ⟨(some 54), 56, .len false (.t 53), none, []⟩, ⟨(some 55), 57, .bin .lss (.t 47) (.t 54), none, []⟩])
  (.cond (.t 55)
  .skip
  (.exit 0)))
  (.seq (.block 1 (.seq (.draw [⟨(some 58), 60, .faddr 2 1 (.t 3), none, []⟩, ⟨(some 59), 61, .load false 1 (.t 58), none, []⟩, ⟨(some 60), 62, .mv (.t 1), none, []⟩, ⟨(some 61), 63, .iaddr 3 (.t 59) (.t 60), none, []⟩, ⟨(some 62), 64, .faddr 2 1 (.t 61), none, []⟩, ⟨(some 63), 65, .load false 1 (.t 62), none, []⟩, ⟨(some 64), 66, .mv (.t 8), none, []⟩, ⟨(some 65), 67, .iaddr 1 (.t 63) (.t 64), none, []⟩, ⟨(some 66), 68, .load false 1 (.t 65), none, []⟩, ⟨(some 67), 69, .mv (.t 2), none, []⟩, ⟨(some 68), 70, .faddr 2 1 (.t 3), none, []⟩, ⟨(some 69), 71, .load false 1 (.t 68), none, []⟩, ⟨(some 70), 72, .mv (.t 1), none, []⟩, ⟨(some 71), 73, .iaddr 3 (.t 69) (.t 70), none, []⟩, ⟨(some 72), 74, .faddr 2 1 (.t 71), none, []⟩, ⟨(some 73), 75, .load false 1 (.t 72), none, []⟩, ⟨(some 74), 76, .mv (.t 8), none, []⟩, ⟨(some 75), 77, .iaddr 1 (.t 73) (.t 74), none, []⟩, ⟨(some 76), 78, .load false 1 (.t 75), none, []⟩, ⟨(some 77), 79, .mv (.t 7), none, []⟩, ⟨(some 78), 80, .iaddr 4 (.t 76) (.t 77), none, []⟩, ⟨(some 79), 81, .load true 4 (.t 78), none, []⟩, ⟨(some 80), 82, .iaddr 4 (.t 66) (.t 67), none, []⟩, ⟨none, 1007023, .store 4 (.t 80) (.t 79), none, []⟩])
  (.draw [⟨(some 81), 83, .faddr 2 1 (.t 3), none, []⟩, ⟨(some 82), 84, .load false 1 (.t 81), none, []⟩, ⟨(some 83), 85, .mv (.t 1), none, []⟩, ⟨(some 84), 86, .iaddr 3 (.t 82) (.t 83), none, []⟩, ⟨(some 85), 87, .faddr 2 1 (.t 84), none, []⟩, ⟨(some 86), 88, .load false 1 (.t 85), none, []⟩, ⟨(some 87), 89, .mv (.t 8), none, []⟩, ⟨(some 88), 90, .faddr 2 1 (.t 3), none, []⟩, ⟨(some 89), 91, .load false 1 (.t 88), none, []⟩, ⟨(some 90), 92, .mv (.t 1), none, []⟩, ⟨(some 91), 93, .iaddr 3 (.t 89) (.t 90), none, []⟩, ⟨(some 92), 94, .faddr 2 1 (.t 91), none, []⟩, ⟨(some 93), 95, .load false 1 (.t 92), none, []⟩, ⟨(some 94), 96, .mv (.t 8), none, []⟩, ⟨(some 95), 97, .iaddr 1 (.t 93) (.t 94), none, []⟩, ⟨(some 96), 98, .load false 1 (.t 95), none, []⟩, ⟨(some 97), 99, .mv (.t 7), none, []⟩, ⟨(some 98), 100, .slice false 4 (.t 96) none (some (.t 97)), none, []⟩, ⟨(some 99), 101, .iaddr 1 (.t 86) (.t 87), none, []⟩, ⟨none, 1008019, .store 1 (.t 99) (.t 98), none, []⟩])))
  (.ops [⟨(some 56), 58, .mv (.t 8), none, []⟩, ⟨(some 57), 59, .bin .add (.t 56) (.c (.i .i64 1)), none, []⟩, ⟨(some 8), 10, .mv (.t 57), none, []⟩]))))))
  (.seq (.ops [⟨(some 100), 102, .load true 4 (.t 3), none, []⟩, ⟨none, 1009001, .store 4 (.t 6) (.t 100), none, []⟩])
  .ret))))))
theorem k69 : compCode Tryz.prog Tryz.f69.ntmps Tryz.f69.body.get! = some c69 := by kernel_rfl
theorem r69 : resTmps Tryz.prog Tryz.f69.results.toList = some [.cell 6 true 4] := by kernel_rfl
def c84 : TCode := (.seq (.ops [⟨(some 9), 11, .mv (.t 0), none, []⟩, ⟨(some 10), 12, .nilck (.t 9), none, []⟩, ⟨(some 11), 13, .faddr 2 1 (.t 10), none, []⟩, ⟨(some 12), 14, .load false 1 (.t 11), none, []⟩, ⟨(some 13), 15, .mv (.t 1), none, []⟩, ⟨(some 14), 16, .iaddr 3 (.t 12) (.t 13), none, []⟩, ⟨(some 6), 8, .mv (.t 14), none, []⟩])
  (.seq (.ops [⟨(some 15), 17, .mv (.t 6), none, []⟩, ⟨(some 16), 18, .nilck (.t 15), none, []⟩, ⟨(some 17), 19, .faddr 1 1 (.t 16), none, []⟩, ⟨(some 18), 20, .load false 1 (.t 17), none, []⟩, ⟨(some 19), 21, .len false (.t 18), none, []⟩, ⟨(some 20), 22, .bin .sub (.t 19) (.c (.i .i64 1)), none, []⟩, ⟨(some 7), 9, .mv (.t 20), none, []⟩])
  (.seq (.draw [⟨(some 21), 23, .mv (.t 6), none, []⟩, ⟨(some 22), 24, .nilck (.t 21), none, []⟩, ⟨(some 23), 25, .faddr 1 1 (.t 22), none, []⟩, ⟨(some 24), 26, .load false 1 (.t 23), none, []⟩, ⟨(some 25), 27, .mv (.t 2), none, []⟩, ⟨(some 26), 28, .mv (.t 6), none, []⟩, ⟨(some 27), 29, .nilck (.t 26), none, []⟩, ⟨(some 28), 30, .faddr 1 1 (.t 27), none, []⟩, ⟨(some 29), 31, .load false 1 (.t 28), none, []⟩, ⟨(some 30), 32, .mv (.t 7), none, []⟩, ⟨(some 31), 33, .iaddr 2 (.t 29) (.t 30), none, []⟩, ⟨(some 32), 34, .load true 2 (.t 31), none, []⟩, ⟨(some 33), 35, .iaddr 2 (.t 24) (.t 25), none, []⟩, ⟨none, 1002013, .store 2 (.t 33) (.t 32), none, []⟩])
  (.seq (.ops [⟨(some 34), 36, .mv (.t 6), none, []⟩, ⟨(some 35), 37, .mv (.t 6), none, []⟩, ⟨(some 36), 38, .nilck (.t 35), none, []⟩, ⟨(some 37), 39, .faddr 1 1 (.t 36), none, []⟩, ⟨(some 38), 40, .load false 1 (.t 37), none, []⟩, ⟨(some 39), 41, .mv (.t 7), none, []⟩, ⟨(some 40), 42, .slice false 2 (.t 38) none (some (.t 39)), none, []⟩, ⟨(some 41), 43, .nilck (.t 34), none, []⟩, ⟨(some 42), 44, .faddr 1 1 (.t 41), none, []⟩, ⟨none, 1003009, .store 1 (.t 42) (.t 40), none, []⟩])
  (.seq (.ops [⟨(some 43), 45, .mv (.t 6), none, []⟩, ⟨(some 44), 46, .nilck (.t 43), none, []⟩, ⟨(some 45), 47, .faddr 2 1 (.t 44), none, []⟩, ⟨(some 46), 48, .load false 1 (.t 45), none, []⟩, ⟨(some 47), 49, .len false (.t 46), none, []⟩, ⟨(some 48), 50, .mv (.c (.i .i64 0)), none, []⟩])
  (.block 0 (.loop (.seq (.ops [⟨(some 49), 51, .bin .lss (.t 48) (.t 47), none, []⟩])
  (.seq (.cond (.t 49)
  .skip
  (.exit 0))
  (.seq (.block 1 (.seq (.ops [⟨(some 50), 52, .mv (.t 48), none, []⟩, ⟨(some 8), 10, .mv (.t 50), none, []⟩])
  (.seq (.draw [⟨(some 51), 53, .mv (.t 6), none, []⟩, ⟨(some 52), 54, .nilck (.t 51), none, []⟩, ⟨(some 53), 55, .faddr 2 1 (.t 52), none, []⟩, ⟨(some 54), 56, .load false 1 (.t 53), none, []⟩, ⟨(some 55), 57, .mv (.t 8), none, []⟩, ⟨(some 56), 58, .iaddr 1 (.t 54) (.t 55), none, []⟩, ⟨(some 57), 59, .load false 1 (.t 56), none, []⟩, ⟨(some 58), 60, .mv (.t 2), none, []⟩, ⟨(some 59), 61, .mv (.t 6), none, []⟩, ⟨(some 60), 62, .nilck (.t 59), none, []⟩, ⟨(some 61), 63, .faddr 2 1 (.t 60), none, []⟩, ⟨(some 62), 64, .load false 1 (.t 61), none, []⟩, ⟨(some 63), 65, .mv (.t 8), none, []⟩, ⟨(some 64), 66, .iaddr 1 (.t 62) (.t 63), none, []⟩, ⟨(some 65), 67, .load false 1 (.t 64), none, []⟩, ⟨(some 66), 68, .mv (.t 7), none, []⟩, ⟨(some 67), 69, .iaddr 4 (.t 65) (.t 66), none, []⟩, ⟨(some 68), 70, .load true 4 (.t 67), none, []⟩, ⟨(some 69), 71, .iaddr 4 (.t 57) (.t 58), none, []⟩, ⟨none, 1007019, .store 4 (.t 69) (.t 68), none, []⟩])
  (.draw [⟨(some 70), 72, .mv (.t 6), none, []⟩, ⟨(some 71), 73, .nilck (.t 70), none, []⟩, ⟨(some 72), 74, .faddr 2 1 (.t 71), none, []⟩, ⟨(some 73), 75, .load false 1 (.t 72), none, []⟩, ⟨(some 74), 76, .mv (.t 8), none, []⟩, ⟨(some 75), 77, .mv (.t 6), none, []⟩, ⟨(some 76), 78, .nilck (.t 75), none, []⟩, ⟨(some 77), 79, .faddr 2 1 (.t 76), none, []⟩, ⟨(some 78), 80, .load false 1 (.t 77), none, []⟩, ⟨(some 79), 81, .mv (.t 8), none, []⟩, ⟨(some 80), 82, .iaddr 1 (.t 78) (.t 79), none, []⟩, ⟨(some 81), 83, .load false 1 (.t 80), none, []⟩, ⟨(some 82), 84, .mv (.t 7), none, []⟩, ⟨(some 83), 85, .slice false 4 (.t 81) none (some (.t 82)), none, []⟩, ⟨(some 84), 86, .iaddr 1 (.t 73) (.t 74), none, []⟩, ⟨none, 1008015, .store 1 (.t 84) (.t 83), none, []⟩]))))
  (.ops [⟨(some 85), 87, .bin .add (.t 48) (.c (.i .i64 1)), none, []⟩, ⟨(some 48), 50, .mv (.t 85), none, []⟩])))))))))))
theorem k84 : compCode Tryz.prog Tryz.f84.ntmps Tryz.f84.body.get! = some c84 := by kernel_rfl
theorem r84 : resTmps Tryz.prog Tryz.f84.results.toList = some [] := by kernel_rfl
def leaveL {α : Type} (l : List α) (k : Nat) : List α := match l[l.length - 1]? with
  | some z => (l.set k z).take (l.length - 1)
  | none => []
theorem leaveL_some {α : Type} {l : List α} {k : Nat} {z : α} (h : l[l.length - 1]? = some z) : leaveL l k = (l.set k z).take (l.length - 1) := by unfold leaveL; rw [h]
def leaveT (t : TableP) (k : Nat) : TableP := (t.1, leaveL t.2.1 k, t.2.2.map fun v => leaveL v k)
theorem tk_off {α : Type} (m : Nat) (L : List α) : (L.drop (offE 0 m)).take m = L.take m := by
  by_cases h : m = 0
  · subst h; simp
  · have : offE 0 m = 0 := by simp [offE, h]
    rw [this, List.drop_zero]
theorem map_mod {α : Type} {f : α → List TV} {l : List α} {k : Nat} {y z : α} {φ : List TV → List TV} (hy : l[k]? = some y) (h : φ (f y) = f z) : (l.map f).modify k φ = (l.set k z).map f := by
  apply List.ext_getElem?
  intro i
  by_cases hi : i = k
  · subst hi
    have hl := (List.getElem?_eq_some_iff.1 hy).1
    have e := (List.getElem?_eq_some_iff.1 hy).2
    simp [List.getElem?_modify, hl, List.getElem?_set_self]
    rw [e]; exact h
  · simp [List.getElem?_modify, List.getElem?_set_ne (Ne.symm hi), hi, Ne.symm hi]
theorem mod_mod {α : Type} (l : List α) (k : Nat) (φ ψ : α → α) : (l.modify k φ).modify k ψ = l.modify k (fun x => ψ (φ x)) := by
  apply List.ext_getElem?
  intro i
  simp only [List.getElem?_modify]
  by_cases hi : k = i
  · simp [hi]; rfl
  · simp [hi]
theorem mod_eT {l : List (Int × Int)} {k : Nat} {y : Int × Int} (z : Int × Int) (hy : l[k]? = some y) :
    ((l.map eT).modify k fun e => e.modify 0 fun x => TV.i .i64 z.1).modify k (fun e => e.modify 1 fun x => TV.i .i64 z.2) = (l.set k z).map eT := by
  rw [mod_mod]
  exact map_mod hy rfl
theorem mod_vT {l : List ValP} {k : Nat} {y : ValP} (z : ValP) (hy : l[k]? = some y) :
    ((((l.map vT).modify k fun e => e.modify 0 fun x => TV.i .i64 z.1).modify k fun e => e.modify 1 fun x => TV.i .i64 z.2.1).modify k fun e => e.modify 2 fun x => TV.f z.2.2.1).modify k (fun e => e.modify 3 fun x => TV.f z.2.2.2) = (l.set k z).map vT := by
  rw [mod_mod, mod_mod, mod_mod]
  exact map_mod hy rfl
def lvd (C : List (List ValP)) (k j : Nat) (L : List (List ValP)) : Prop := L = (C.take j).map fun v => leaveL v k
set_option maxRecDepth 100000 in
theorem w69 (g f : List Int) (A B : List TableP) (t : TableP) (rs : List ValP) (k : Nat) (hA : A.length ≤ 2^36) (hB : B.length ≤ 2^36) (hk : k < t.2.1.length) (hl : t.2.1.length ≤ 2^36) (hc : t.2.2.length ≤ 2^36) (hv : ∀ v ∈ t.2.2, v.length = t.2.1.length) : Contract Tryz.prog false 69 [.own, .ro, .ro] [worldO g f (A ++ t :: B) rs, .i .i64 A.length, .i .i64 k] [worldO g f (A ++ leaveT t k :: B) rs] [none, none, none, none] := by
  refine mk_contract [none, none, none, none] Tryz.func69 (c := Tryz.f69.body.get!) (by kernel_rfl) k69 r69 (of_decide_eq_true rfl) fun _ => ?_
  obtain ⟨t1, t2, t3⟩ := t
  simp only [leaveT] at hk hl hc hv ⊢
  obtain ⟨z, hz⟩ : ∃ z, t2[t2.length - 1]? = some z := get_some (by omega)
  obtain ⟨y, hy⟩ : ∃ y, t2[k]? = some y := get_some hk
  rw [leaveL_some hz]
  have hw1 : IntKind.i64.wrap ((t2.length : Int) - 1) = ((t2.length - 1 : Nat) : Int) := by rw [wrap_id (by omega) (by omega)]; omega
  unfold c69; simp [hw1, hz, hy, hk]
  refine ⟨by omega, by omega, by omega, ?_⟩
  rw [tk_off, mod_eT z hy]
  obtain ⟨R, hR⟩ : ∃ R, R = (t2.set k z).take (t2.length - 1) := ⟨_, rfl⟩
  rw [← List.map_take, ← hR]
  refine twp_for t3.length (fun j s => ∃ (L : List (List ValP)), lvd t3 k j L ∧ L.length = j ∧ s.t 1 = .i .i64 A.length ∧ s.t 2 = .i .i64 k ∧ s.t 3 = .pt [(5, 0)] 0 0 ∧ s.t 6 = .pt [(8, 0)] 0 0 ∧ s.t 7 = .i .i64 ((t2.length - 1 : Nat) : Int) ∧ s.t 8 = .i .i64 j ∧ s.H = lk [(1, [.junk, .junk, .junk, .junk]), (5, [.po true [.sl true 1 (g.map iT), .sl true 1 (f.map iT), .sl true 3 (A.map tbO ++ [.sl true 1 (t1.map iT), .sl true 2 (R.map eT), .sl true 1 (L.map cvO ++ (t3.map cvO).drop j)] :: B.map tbO), .sl true 4 (rs.map vT)]]), (8, [.po true [.sl true 1 [], .sl true 1 [], .sl true 3 [], .sl true 4 []]])]) [] (by simp) ?_ ?_
  · refine ⟨[], rfl, rfl, ?_⟩
    simp
  · rintro j s hj ⟨L, hL, hLl, q1, q2, q3, q6, q7, q8, qH⟩
    rw [nf_of qH]
    have hw : IntKind.i64.wrap ((j : Int) + 1) = j + 1 := wrap_id (by omega) (by omega)
    cases hb9 : decide (j < t3.length)
    · have hge := of_decide_eq_false hb9
      obtain rfl : j = t3.length := by omega
      have hL' : L = t3.map fun v => leaveL v k := by unfold lvd at hL; rw [hL, List.take_length]
      have hd : (t3.map cvO).drop t3.length = [] := List.drop_eq_nil_of_le (by simp)
      simp [q1, q2, q3, q6, q7, q8, hb9, hLl, hd]
      refine ⟨by omega, ?_⟩
      rw [hL', List.map_map]
    · have hlt := of_decide_eq_true hb9
      obtain ⟨x, hx⟩ := get_some hlt
      have hxl := hv x (List.mem_of_getElem? hx)
      obtain ⟨xz, hxz⟩ : ∃ z, x[t2.length - 1]? = some z := get_some (by omega)
      obtain ⟨xy, hxy⟩ : ∃ y, x[k]? = some y := get_some (by omega)
      simp [q1, q2, q3, q6, q7, q8, hb9, hLl, drop_at hx, hw, hxz, hxy]
      refine ⟨by omega, fun _ => ⟨by omega, by omega, by omega, by omega, by omega, by omega, by omega, by omega, by omega, by omega, hlt, L ++ [leaveL x k], ?_, by simp [hLl], ?_⟩, fun h => absurd h (by omega)⟩
      · unfold lvd at hL ⊢
        rw [hL, take_snoc hx]; simp
      · rw [tk_off, mod_vT xz hxy]
        have hxz' : x[x.length - 1]? = some xz := by rw [hxl]; exact hxz
        simp [leaveL_some hxz', hxl]
set_option maxRecDepth 100000 in
theorem w84 (g f : List Int) (A B : List TableP) (t : TableP) (rs : List ValP) (k : Nat) (hA : A.length ≤ 2^36) (hB : B.length ≤ 2^36) (hk : k < t.2.1.length) (hl : t.2.1.length ≤ 2^36) (hc : t.2.2.length ≤ 2^36) (hv : ∀ v ∈ t.2.2, v.length = t.2.1.length) : Contract Tryz.prog false 84 [.own, .ro, .ro] [.po true [.sl true 1 (g.map iT), .sl true 1 (f.map iT), .sl true 3 ((A ++ t :: B).map tbO), .sl true 4 (rs.map vT)], .i .i64 A.length, .i .i64 k] [] [some (.po true [.sl true 1 (g.map iT), .sl true 1 (f.map iT), .sl true 3 ((A ++ leaveT t k :: B).map tbO), .sl true 4 (rs.map vT)])] := by
  refine mk_contract [some [(1, 0)]] Tryz.func84 (c := Tryz.f84.body.get!) (by kernel_rfl) k84 r84 (of_decide_eq_true rfl) fun _ => ?_
  obtain ⟨t1, t2, t3⟩ := t
  simp only [leaveT] at hk hl hc hv ⊢
  obtain ⟨z, hz⟩ : ∃ z, t2[t2.length - 1]? = some z := get_some (by omega)
  obtain ⟨y, hy⟩ : ∃ y, t2[k]? = some y := get_some hk
  rw [leaveL_some hz]
  obtain ⟨R, hR⟩ : ∃ R, R = (t2.set k z).take (t2.length - 1) := ⟨_, rfl⟩
  obtain ⟨C, hC⟩ : ∃ C, C = t3.map fun v => leaveL v k := ⟨_, rfl⟩
  rw [← hR, ← hC]
  have hw1 : IntKind.i64.wrap ((t2.length : Int) - 1) = ((t2.length - 1 : Nat) : Int) := by rw [wrap_id (by omega) (by omega)]; omega
  unfold c84; simp [hw1, hz, hy, hk]
  refine ⟨by omega, by omega, ?_⟩
  rw [tk_off, mod_eT z hy]
  rw [← List.map_take, ← hR]
  refine twp_for t3.length (fun j s => ∃ (L : List (List ValP)), lvd t3 k j L ∧ L.length = j ∧ s.t 2 = .i .i64 k ∧ s.t 6 = .pt [(1, 0), (0, 2)] A.length 0 ∧ s.t 7 = .i .i64 ((t2.length - 1 : Nat) : Int) ∧ s.t 47 = .i .i64 t3.length ∧ s.t 48 = .i .i64 j ∧ s.H = lk [(1, [.po true [.sl true 1 (g.map iT), .sl true 1 (f.map iT), .sl true 3 (A.map tbO ++ [.sl true 1 (t1.map iT), .sl true 2 (R.map eT), .sl true 1 (L.map cvO ++ (t3.map cvO).drop j)] :: B.map tbO), .sl true 4 (rs.map vT)]])]) [] (by simp) ?_ ?_
  · refine ⟨[], rfl, rfl, ?_⟩
    simp
  · rintro j s hj ⟨L, hL, hLl, q2, q6, q7, q47, q48, qH⟩
    rw [nf_of qH]
    have hw : IntKind.i64.wrap ((j : Int) + 1) = j + 1 := wrap_id (by omega) (by omega)
    cases hb9 : decide (j < t3.length)
    · have hge := of_decide_eq_false hb9
      obtain rfl : j = t3.length := by omega
      have hL' : L = C := by unfold lvd at hL; rw [hL, List.take_length, hC]
      have hd : (t3.map cvO).drop t3.length = [] := List.drop_eq_nil_of_le (by simp)
      simp [q2, q6, q7, q47, q48, hb9, hLl, hd]
      rw [hL']
    · have hlt := of_decide_eq_true hb9
      obtain ⟨x, hx⟩ := get_some hlt
      have hxl := hv x (List.mem_of_getElem? hx)
      obtain ⟨xz, hxz⟩ : ∃ z, x[t2.length - 1]? = some z := get_some (by omega)
      obtain ⟨xy, hxy⟩ : ∃ y, x[k]? = some y := get_some (by omega)
      simp [q2, q6, q7, q47, q48, hb9, hLl, drop_at hx, hw, hxz, hxy]
      refine ⟨by omega, by omega, by omega, by omega, by omega, by omega, hlt, L ++ [leaveL x k], ?_, by simp [hLl], ?_⟩
      · unfold lvd at hL ⊢
        rw [hL, take_snoc hx]; simp
      · rw [tk_off, mod_vT xz hxy]
        have hxz' : x[x.length - 1]? = some xz := by rw [hxl]; exact hxz
        simp [leaveL_some hxz', hxl]
end Go.Proofs.YtehmdblkkpdmoaaGreatT

