/- Texts of this session's own, one behind the other: Kv0, Kv1, Kv2, Kw1, Kb, Kc, Kd, Ke, Kf, Kg, Kx1, Kx4, Kh, Ki. -/
import Derived.Test.YtehmdblkkpdmoaaPk10
import Derived.Tactics2
import Derived.Laws.Externs
namespace Go.Proofs.YtehmdblkkpdmoaaT
set_option linter.unusedVariables false
set_option linter.unusedSimpArgs false
open Go
theorem contract_vals {P : Program} {g : FuncId} {args : List TV} {u : TV} (ha : isAg u = false)
  (h : ∀ (w : World) (vs : List Value) (κ : Path → Value) (A : Nat → Nat → Prop), args.length = vs.length → (∀ (j : Nat) (u : TV) (v : Value), args[j]? = some u → vs[j]? = some v → RV w κ (fun _ => []) A u v) →
   ∃ v, isAgV v = false ∧ (∀ A', RR w A' u v) ∧ Calls P g vs.toArray w fun e w' => e = .returned v ∧ w' = w) :
  Contract P false g (args.map fun _ => .ro) args [u] [] := by
 intro w vs κ γ A hargs hγ hA
 obtain ⟨v, hv0, hv, hc⟩ := h w vs κ A hargs.len fun j x y hx hy => hargs.ro j x y (by simp [hx]) hx hy
 refine hc.mono fun e w' he => ?_
 obtain ⟨rfl, rfl⟩ := he
 have hcu : cellsT u = [u] := by cases u <;> first | rfl | cases ha
 have hcv : cellsV v = [v] := by cases v <;> first | rfl | cases hv0
 refine ⟨[v], fun q => if q = [(0, 0)] then v else κ q, γ, rfl, ⟨rfl, fun j a b h1 h2 => ?_, fun m c hm => ?_, fun m x hm => ?_⟩, fun m x hm => by simp at hm, fun b o q hb => ⟨hγ b o q hb, .inl ⟨q, hb⟩⟩, Chg.refl _ _⟩
 ·cases j with
  | zero => cases h1; cases h2; exact ⟨by rw [ha, hv0], by rw [hcu, hcv]; rfl⟩
  | succ j => cases h1
 ·rw [show ([u] : List TV).flatMap cellsT = [u] by rw [List.flatMap_cons, hcu]; rfl] at hm
  cases m with
  | zero => simp at hm; subst hm; simp; exact .pure _ _ _ (hv _)
  | succ m => simp at hm
 ·rw [show ([v] : List Value).flatMap cellsV = [v] by rw [List.flatMap_cons, hcv]; rfl] at hm
  cases m with
  | zero => simp at hm; subst hm; simp
  | succ m => simp at hm
theorem canon_zero (x : Nat) : canon x = 0 ↔ x = 0 := by
 unfold canon
 split
 ·rename_i h
  constructor
  ·intro h2; simp at h2
  ·rintro rfl; exfalso; revert h; decide
 ·rfl
theorem bits_run (x : Nat) (W : World) : (callFunc 139 #[.float .f64 x]).run Try.prog W = .ok (.value (.int .u64 (x : Int))) W := by
 rw [run_callFunc_extern (fn := Try.f139) (e := Extern.MathFloatBits.float64bits) Try.func139 (by kernel_rfl) (by kernel_rfl) (by kernel_rfl) (by kernel_rfl)]
 rfl
theorem w121 (x : Nat) : Contract Try.prog false 121 [.ro] [.f x] [.b (decide (x = 0))] [] := by
 refine contract_vals (args := [.f x]) rfl fun w vs κ A hl hv => ?_
 obtain ⟨v, rfl⟩ : ∃ v, vs = [v] := by
  match vs, hl with
  | [v], _ => exact ⟨v, rfl⟩
 obtain ⟨y, rfl, hy⟩ := rv_f (hv 0 _ _ rfl rfl)
 subst hy
 refine ⟨.bool (decide (canon y = 0)), rfl, fun A' => .b _, ?_⟩
 have hf := bits_run y
 rw [show decide (canon y = 0) = decide (y = 0) from decide_eq_decide.2 (canon_zero y)]
 go_enter Try.func121, Try.ntmps121
 go_wp2
 go_ret
 exact ⟨by simp; by_cases h : y = 0 <;> simp [h], rfl⟩
end Go.Proofs.YtehmdblkkpdmoaaT


namespace Go.Proofs.YtehmdblkkpdmoaaT
set_option linter.unusedVariables false
set_option linter.unusedSimpArgs false
open Go
def c78 : TCode := (.seq (.ops [⟨(some 2), 4, .mv (.c (.b false)), none, []⟩])
 (.seq (.ops [⟨(some 3), 5, .mv (.t 0), none, []⟩, ⟨(some 4), 6, .bin .eql (.t 3) (.c (.f 0)), none, []⟩, ⟨(some 5), 7, .mv (.t 4), none, []⟩, ⟨(some 6), 8, .mv (.t 0), (some (5, true)), []⟩, ⟨(some 7), 9, .bin .quo (.c (.f 4607182418800017408)) (.t 6), (some (5, true)), []⟩, ⟨(some 8), 10, .bin .gtr (.t 7) (.c (.f 0)), (some (5, true)), []⟩, ⟨(some 9), 11, .pick (.t 5) (.t 8) (.c (.b false)), none, []⟩, ⟨(some 2), 4, .mv (.t 9), none, []⟩])
 .ret))
theorem k78 : compCode Try.prog Try.f78.ntmps Try.f78.body.get! = some c78 := by kernel_rfl
theorem r78 : resTmps Try.prog Try.f78.results.toList = some [.tmp 2] := by kernel_rfl
theorem w78 (x : Nat) (hx : fOk x) : Contract Try.prog false 78 [.ro] [.f x] [.b (decide (x = 0))] [] := by
 refine mk_contract [] Try.func78 (c := Try.f78.body.get!) (by kernel_rfl) k78 r78 (of_decide_eq_true rfl) fun _ => ?_
 unfold c78; simp [feqz hx]
 by_cases h0 : x = 0
 ·subst h0; simp [inv_zero, gt_infb]
 by_cases h1 : x = 9223372036854775808
 ·subst h1; simp [inv_mzero, gt_minfb]
 simp [h0, h1]
abbrev ValP := Int × Int × Nat × Nat
def valOkF (v : ValP) : Prop := fOk v.2.2.1 ∧ fOk v.2.2.2
@[simp] def vT (v : ValP) : List TV := [.i .i64 v.1, .i .i64 v.2.1, .f v.2.2.1, .f v.2.2.2]
@[simp] theorem fzL_vT (v : ValP) : fzL (vT v) = vT v := rfl
@[simp] theorem fzLL_vT (l : List (ValP)) : fzLL (l.map vT) = l.map vT := fzLL_map fzL_vT l
@[simp] theorem noROLL_vT (l : List (ValP)) : noROLL (l.map vT) = true := noROLL_map (fun _ => rfl) l
def valV (v : ValP) : TV := .ag [.i .i64 v.1, .i .i64 v.2.1, .f v.2.2.1, .f v.2.2.2]
end Go.Proofs.YtehmdblkkpdmoaaT


namespace Go.Proofs.YtehmdblkkpdmoaaT
set_option linter.unusedVariables false
set_option linter.unusedSimpArgs false
open Go
def c35 : TCode := (.seq (.ops [⟨(some 1), 3, .box 4 (.t 0), none, []⟩, ⟨(some 2), 4, .mv (.c (.b false)), none, []⟩])
 (.seq (.seq (.ops [⟨(some 3), 5, .faddr 0 1 (.t 1), none, []⟩, ⟨(some 4), 6, .load false 1 (.t 3), none, []⟩])
 (.block 0 (.seq (.ops [⟨(some 6), 8, .bin .eql (.t 4) (.c (.i .i64 1)), none, []⟩, ⟨(some 5), 7, .mv (.t 6), none, []⟩])
 (.cond (.t 5)
 (.seq (.ops [⟨(some 7), 9, .faddr 2 1 (.t 1), none, []⟩, ⟨(some 8), 10, .load false 1 (.t 7), none, []⟩, ⟨(some 9), 11, .call 78 [((.t 8), 0)], none, []⟩, ⟨(some 10), 12, .mv (.t 9), none, []⟩, ⟨(some 11), 13, .faddr 3 1 (.t 1), (some (10, true)), []⟩, ⟨(some 12), 14, .load false 1 (.t 11), (some (10, true)), []⟩, ⟨(some 13), 15, .call 78 [((.t 12), 0)], (some (10, true)), []⟩, ⟨(some 14), 16, .pick (.t 10) (.t 13) (.c (.b false)), none, []⟩, ⟨(some 2), 4, .mv (.t 14), none, []⟩])
 .ret)
 (.seq (.ops [⟨(some 16), 18, .bin .eql (.t 4) (.c (.i .i64 2)), none, []⟩, ⟨(some 15), 17, .mv (.t 16), none, []⟩])
 (.cond (.t 15)
 (.seq (.ops [⟨(some 17), 19, .faddr 1 1 (.t 1), none, []⟩, ⟨(some 18), 20, .load false 1 (.t 17), none, []⟩, ⟨(some 19), 21, .bin .eql (.t 18) (.c (.i .i64 0)), none, []⟩, ⟨(some 20), 22, .mv (.t 19), none, []⟩, ⟨(some 21), 23, .faddr 3 1 (.t 1), (some (20, true)), []⟩, ⟨(some 22), 24, .load false 1 (.t 21), (some (20, true)), []⟩, ⟨(some 23), 25, .call 78 [((.t 22), 0)], (some (20, true)), []⟩, ⟨(some 24), 26, .pick (.t 20) (.t 23) (.c (.b false)), none, []⟩, ⟨(some 2), 4, .mv (.t 24), none, []⟩])
 .ret)
 (.seq (.ops [⟨(some 26), 28, .bin .eql (.t 4) (.c (.i .i64 3)), none, []⟩, ⟨(some 25), 27, .mv (.t 26), none, []⟩])
 (.cond (.t 25)
 (.seq (.ops [⟨(some 27), 29, .faddr 1 1 (.t 1), none, []⟩, ⟨(some 28), 30, .load false 1 (.t 27), none, []⟩, ⟨(some 29), 31, .bin .eql (.t 28) (.c (.i .i64 0)), none, []⟩, ⟨(some 2), 4, .mv (.t 29), none, []⟩])
 .ret)
 (.seq (.ops [⟨(some 31), 33, .bin .eql (.t 4) (.c (.i .i64 4)), none, []⟩, ⟨(some 30), 32, .mv (.t 31), none, []⟩])
 (.cond (.t 30)
 (.seq (.ops [⟨(some 32), 34, .faddr 1 1 (.t 1), none, []⟩, ⟨(some 33), 35, .load false 1 (.t 32), none, []⟩, ⟨(some 34), 36, .bin .eql (.t 33) (.c (.i .i64 0)), none, []⟩, ⟨(some 35), 37, .mv (.t 34), none, []⟩, ⟨(some 36), 38, .faddr 1 1 (.t 1), (some (35, false)), []⟩, ⟨(some 37), 39, .load false 1 (.t 36), (some (35, false)), []⟩, ⟨(some 38), 40, .bin .eql (.t 37) (.c (.i .i64 1)), (some (35, false)), []⟩, ⟨(some 39), 41, .pick (.t 35) (.c (.b true)) (.t 38), none, []⟩, ⟨(some 40), 42, .mv (.t 39), none, []⟩, ⟨(some 41), 43, .faddr 2 1 (.t 1), (some (40, true)), []⟩, ⟨(some 42), 44, .load false 1 (.t 41), (some (40, true)), []⟩, ⟨(some 43), 45, .call 78 [((.t 42), 0)], (some (40, true)), []⟩, ⟨(some 44), 46, .pick (.t 40) (.t 43) (.c (.b false)), none, []⟩, ⟨(some 45), 47, .mv (.t 44), none, []⟩, ⟨(some 46), 48, .faddr 3 1 (.t 1), (some (45, true)), []⟩, ⟨(some 47), 49, .load false 1 (.t 46), (some (45, true)), []⟩, ⟨(some 48), 50, .call 78 [((.t 47), 0)], (some (45, true)), []⟩, ⟨(some 49), 51, .pick (.t 45) (.t 48) (.c (.b false)), none, []⟩, ⟨(some 2), 4, .mv (.t 49), none, []⟩])
 .ret)
 .skip))))))))))
 (.seq (.ops [⟨(some 2), 4, .mv (.c (.b false)), none, []⟩])
 .ret)))
theorem k35 : compCode Try.prog Try.f35.ntmps Try.f35.body.get! = some c35 := by kernel_rfl
theorem r35 : resTmps Try.prog Try.f35.results.toList = some [.tmp 2] := by kernel_rfl
def c91 : TCode := (.seq (.ops [⟨(some 1), 3, .box 4 (.t 0), none, []⟩, ⟨(some 2), 4, .mv (.c (.b false)), none, []⟩])
 (.seq (.seq (.ops [⟨(some 3), 5, .faddr 0 1 (.t 1), none, []⟩, ⟨(some 4), 6, .load false 1 (.t 3), none, []⟩])
 (.block 0 (.seq (.ops [⟨(some 6), 8, .bin .eql (.t 4) (.c (.i .i64 1)), none, []⟩, ⟨(some 5), 7, .mv (.t 6), none, []⟩])
 (.cond (.t 5)
 (.seq (.ops [⟨(some 7), 9, .faddr 2 1 (.t 1), none, []⟩, ⟨(some 8), 10, .load false 1 (.t 7), none, []⟩, ⟨(some 9), 11, .call 121 [((.t 8), 0)], none, []⟩, ⟨(some 10), 12, .mv (.t 9), none, []⟩, ⟨(some 11), 13, .faddr 3 1 (.t 1), (some (10, true)), []⟩, ⟨(some 12), 14, .load false 1 (.t 11), (some (10, true)), []⟩, ⟨(some 13), 15, .call 121 [((.t 12), 0)], (some (10, true)), []⟩, ⟨(some 14), 16, .pick (.t 10) (.t 13) (.c (.b false)), none, []⟩, ⟨(some 2), 4, .mv (.t 14), none, []⟩])
 .ret)
 (.seq (.ops [⟨(some 16), 18, .bin .eql (.t 4) (.c (.i .i64 2)), none, []⟩, ⟨(some 15), 17, .mv (.t 16), none, []⟩])
 (.cond (.t 15)
 (.seq (.ops [⟨(some 17), 19, .faddr 1 1 (.t 1), none, []⟩, ⟨(some 18), 20, .load false 1 (.t 17), none, []⟩, ⟨(some 19), 21, .bin .eql (.t 18) (.c (.i .i64 0)), none, []⟩, ⟨(some 20), 22, .mv (.t 19), none, []⟩, ⟨(some 21), 23, .faddr 3 1 (.t 1), (some (20, true)), []⟩, ⟨(some 22), 24, .load false 1 (.t 21), (some (20, true)), []⟩, ⟨(some 23), 25, .call 121 [((.t 22), 0)], (some (20, true)), []⟩, ⟨(some 24), 26, .pick (.t 20) (.t 23) (.c (.b false)), none, []⟩, ⟨(some 2), 4, .mv (.t 24), none, []⟩])
 .ret)
 (.seq (.ops [⟨(some 26), 28, .bin .eql (.t 4) (.c (.i .i64 3)), none, []⟩, ⟨(some 25), 27, .mv (.t 26), none, []⟩])
 (.cond (.t 25)
 (.seq (.ops [⟨(some 27), 29, .faddr 1 1 (.t 1), none, []⟩, ⟨(some 28), 30, .load false 1 (.t 27), none, []⟩, ⟨(some 29), 31, .bin .eql (.t 28) (.c (.i .i64 0)), none, []⟩, ⟨(some 2), 4, .mv (.t 29), none, []⟩])
 .ret)
 (.seq (.ops [⟨(some 31), 33, .bin .eql (.t 4) (.c (.i .i64 4)), none, []⟩, ⟨(some 30), 32, .mv (.t 31), none, []⟩])
 (.cond (.t 30)
 (.seq (.ops [⟨(some 32), 34, .faddr 1 1 (.t 1), none, []⟩, ⟨(some 33), 35, .load false 1 (.t 32), none, []⟩, ⟨(some 34), 36, .call 87 [((.t 33), 0), ((.c (.i .i64 0)), 0), ((.c (.i .i64 1)), 0)], none, []⟩, ⟨(some 35), 37, .mv (.t 34), none, []⟩, ⟨(some 36), 38, .faddr 2 1 (.t 1), (some (35, true)), []⟩, ⟨(some 37), 39, .load false 1 (.t 36), (some (35, true)), []⟩, ⟨(some 38), 40, .call 121 [((.t 37), 0)], (some (35, true)), []⟩, ⟨(some 39), 41, .pick (.t 35) (.t 38) (.c (.b false)), none, []⟩, ⟨(some 40), 42, .mv (.t 39), none, []⟩, ⟨(some 41), 43, .faddr 3 1 (.t 1), (some (40, true)), []⟩, ⟨(some 42), 44, .load false 1 (.t 41), (some (40, true)), []⟩, ⟨(some 43), 45, .call 121 [((.t 42), 0)], (some (40, true)), []⟩, ⟨(some 44), 46, .pick (.t 40) (.t 43) (.c (.b false)), none, []⟩, ⟨(some 2), 4, .mv (.t 44), none, []⟩])
 .ret)
 .skip))))))))))
 (.seq (.ops [⟨(some 2), 4, .mv (.c (.b false)), none, []⟩])
 .ret)))
theorem k91 : compCode Try.prog Try.f91.ntmps Try.f91.body.get! = some c91 := by kernel_rfl
theorem r91 : resTmps Try.prog Try.f91.results.toList = some [.tmp 2] := by kernel_rfl
def c141 : TCode := (.seq (.ops [⟨(some 2), 4, .box 4 (.c (.ag [(.i .i64 0), (.i .i64 0), (.f 0), (.f 0)])), none, []⟩])
 (.seq (.seq (.ops [⟨(some 3), 5, .mv (.t 0), none, []⟩, ⟨(some 4), 6, .call 38 [((.t 3), 0), ((.c (.i .i64 1)), 0), ((.c (.i .i64 4)), 0)], none, []⟩, ⟨(some 5), 7, .un .not (.t 4), none, []⟩])
 (.cond (.t 5)
 (.seq (.ops [⟨(some 6), 8, .build [(.i .i64 0), (.i .i64 0), (.f 0), (.f 0)] [], none, []⟩, ⟨none, 1002001, .store 4 (.t 2) (.t 6), none, []⟩])
 .ret)
 .skip))
 (.seq (.ops [⟨(some 7), 9, .mv (.t 0), none, []⟩, ⟨(some 8), 10, .build [(.i .i64 0), (.i .i64 0), (.f 0), (.f 0)] [(0, 1, (.t 7))], none, []⟩, ⟨none, 1003002, .store 4 (.t 2) (.t 8), none, []⟩])
 .ret)))
theorem k141 : compCode Try.prog Try.f141.ntmps Try.f141.body.get! = some c141 := by kernel_rfl
theorem r141 : resTmps Try.prog Try.f141.results.toList = some [.cell 2 true 4] := by kernel_rfl
def ValOkP (v : ValP) : Prop := (v.1 = 1 ∧ v.2.2.1 = 0 ∧ v.2.2.2 = 0) ∨ (v.1 = 2 ∧ v.2.1 = 0 ∧ v.2.2.2 = 0) ∨ (v.1 = 3 ∧ v.2.1 = 0) ∨ (v.1 = 4 ∧ (v.2.1 = 0 ∨ v.2.1 = 1) ∧ v.2.2.1 = 0 ∧ v.2.2.2 = 0)
instance (v : ValP) : Decidable (ValOkP v) := by unfold ValOkP; infer_instance
theorem w35 (v : ValP) (hv : valOkF v) : Contract Try.prog false 35 [.ro] [valV v] [.b (decide (ValOkP v))] [] := by
 refine mk_contract [] Try.func35 (c := Try.f35.body.get!) (by kernel_rfl) k35 r35 (of_decide_eq_true rfl) fun _ => ?_
 unfold c35; unfold valV ValOkP; simp
 by_cases k1 : v.1 = 1
 ·simp [k1]
  by_cases h1 : v.2.2.1 = 0
  ·refine callW_ms [.ro] ?_
   simp
   refine callX_of ((w78 _ hv.1).t h1) (by simp) ?_
   simp
   refine callW_ms [.ro] ?_
   simp
   refine callX_of (w78 _ hv.2) (by simp) ?_
   simp [h1]
  ·refine callW_ms [.ro] ?_
   simp
   refine callX_of ((w78 _ hv.1).f h1) (by simp) ?_
   simp [h1]
 by_cases k2 : v.1 = 2
 ·simp [k2]
  by_cases h1 : v.2.1 = 0
  ·simp [h1]
   refine callW_ms [.ro] ?_
   simp
   refine callX_of (w78 _ hv.2) (by simp) ?_
   simp [h1]
  ·simp [h1]
 by_cases k3 : v.1 = 3
 ·simp [k3]
 by_cases k4 : v.1 = 4
 ·simp [k4]
  by_cases hi : v.2.1 = 0
  ·simp [hi]
   by_cases h1 : v.2.2.1 = 0
   ·refine callW_ms [.ro] ?_
    simp
    refine callX_of ((w78 _ hv.1).t h1) (by simp) ?_
    simp
    refine callW_ms [.ro] ?_
    simp
    refine callX_of (w78 _ hv.2) (by simp) ?_
    simp [h1]
   ·refine callW_ms [.ro] ?_
    simp
    refine callX_of ((w78 _ hv.1).f h1) (by simp) ?_
    simp [h1]
  ·by_cases hi1 : v.2.1 = 1
   ·simp [hi, hi1]
    by_cases h1 : v.2.2.1 = 0
    ·refine callW_ms [.ro] ?_
     simp
     refine callX_of ((w78 _ hv.1).t h1) (by simp) ?_
     simp
     refine callW_ms [.ro] ?_
     simp
     refine callX_of (w78 _ hv.2) (by simp) ?_
     simp [h1]
    ·refine callW_ms [.ro] ?_
     simp
     refine callX_of ((w78 _ hv.1).f h1) (by simp) ?_
     simp [h1]
   ·simp [hi, hi1]
 simp [k1, k2, k3, k4]
theorem w91 (v : ValP) : Contract Try.prog false 91 [.ro] [valV v] [.b (decide (ValOkP v))] [] := by
 refine mk_contract [] Try.func91 (c := Try.f91.body.get!) (by kernel_rfl) k91 r91 (of_decide_eq_true rfl) fun _ => ?_
 unfold c91; unfold valV ValOkP; simp
 by_cases k1 : v.1 = 1
 ·simp [k1]
  by_cases h1 : v.2.2.1 = 0
  ·refine callW_ms [.ro] ?_
   simp
   refine callX_of ((w121 _).t h1) (by simp) ?_
   simp
   refine callW_ms [.ro] ?_
   simp
   refine callX_of (w121 v.2.2.2) (by simp) ?_
   simp [h1]
  ·refine callW_ms [.ro] ?_
   simp
   refine callX_of ((w121 _).f h1) (by simp) ?_
   simp [h1]
 by_cases k2 : v.1 = 2
 ·simp [k2]
  by_cases h1 : v.2.1 = 0
  ·simp [h1]
   refine callW_ms [.ro] ?_
   simp
   refine callX_of (w121 v.2.2.2) (by simp) ?_
   simp [h1]
  ·simp [h1]
 by_cases k3 : v.1 = 3
 ·simp [k3]
 by_cases k4 : v.1 = 4
 ·simp [k4]
  by_cases hi : 0 ≤ v.2.1 ∧ v.2.1 ≤ 1
  ·have hi2 : v.2.1 = 0 ∨ v.2.1 = 1 := by omega
   refine callW_ms [.ro, .ro, .ro] ?_
   simp
   refine callX_of ((w87 v.2.1 0 1).t hi) (by simp) ?_
   simp
   by_cases h1 : v.2.2.1 = 0
   ·refine callW_ms [.ro] ?_
    simp
    refine callX_of ((w121 _).t h1) (by simp) ?_
    simp
    refine callW_ms [.ro] ?_
    simp
    refine callX_of (w121 v.2.2.2) (by simp) ?_
    simp [h1, hi2]
   ·refine callW_ms [.ro] ?_
    simp
    refine callX_of ((w121 _).f h1) (by simp) ?_
    simp [h1]
  ·have hi2 : ¬ (v.2.1 = 0 ∨ v.2.1 = 1) := by omega
   refine callW_ms [.ro, .ro, .ro] ?_
   simp
   refine callX_of ((w87 v.2.1 0 1).f hi) (by simp) ?_
   simp [hi2]
 simp [k1, k2, k3, k4]
def zeroV (k : Int) : ValP := if 1 ≤ k ∧ k ≤ 4 then (k, 0, 0, 0) else (0, 0, 0, 0)
theorem w141 (k : Int) : Contract Try.prog false 141 [.ro] [.i .i64 k] [valV (zeroV k)] [] := by
 refine mk_contract [] Try.func141 (c := Try.f141.body.get!) (by kernel_rfl) k141 r141 (of_decide_eq_true rfl) fun _ => ?_
 unfold c141; unfold valV zeroV; simp
 by_cases h : 1 ≤ k ∧ k ≤ 4
 ·refine callW_ms [.ro, .ro, .ro] ?_
  simp
  refine callX_of ((w38 k 1 4).t h) (by simp) ?_
  simp [h]
 ·refine callW_ms [.ro, .ro, .ro] ?_
  simp
  refine callX_of ((w38 k 1 4).f h) (by simp) ?_
  simp [h]
end Go.Proofs.YtehmdblkkpdmoaaT


namespace Go.Proofs.YtehmdblkkpdmoaaT
set_option linter.unusedVariables false
set_option linter.unusedSimpArgs false
open Go
end Go.Proofs.YtehmdblkkpdmoaaT


namespace Go.Proofs.YtehmdblkkpdmoaaT
set_option linter.unusedVariables false
set_option linter.unusedSimpArgs false
open Go
def c88 : TCode := (.seq (.ops [⟨(some 1), 3, .box 2 (.t 0), none, []⟩, ⟨(some 2), 4, .mv (.c (.sl true 1 [])), none, []⟩, ⟨(some 3), 5, .mv (.c (.b false)), none, []⟩])
 (.seq (.ops [⟨(some 7), 9, .faddr 0 1 (.t 1), none, []⟩, ⟨(some 8), 10, .load false 1 (.t 7), none, []⟩, ⟨(some 9), 11, .len false (.t 8), none, []⟩, ⟨(some 10), 12, .mkslice 1 1 [(.b false)] (.t 9) (.t 9), none, []⟩, ⟨(some 4), 6, .mv (.t 10), none, []⟩])
 (.seq (.seq (.ops [⟨(some 11), 13, .faddr 1 1 (.t 1), none, []⟩, ⟨(some 12), 14, .load false 1 (.t 11), none, []⟩, ⟨(some 13), 15, .len false (.t 12), none, []⟩, ⟨(some 14), 16, .mv (.c (.i .i64 0)), none, []⟩])
 (.block 0 (.loop (.seq (.ops [⟨(some 15), 17, .bin .lss (.t 14) (.t 13), none, []⟩])
 (.seq (.cond (.t 15)
 .skip
 (.exit 0))
 (.seq (.block 1 (.seq (.ops [⟨(some 16), 18, .iaddr 1 (.t 12) (.t 14), none, []⟩, ⟨(some 17), 19, .load false 1 (.t 16), none, []⟩, ⟨(some 6), 8, .mv (.t 17), none, []⟩])
 (.seq (.seq (.ops [⟨(some 18), 20, .mv (.t 6), none, []⟩, ⟨(some 19), 21, .faddr 0 1 (.t 1), none, []⟩, ⟨(some 20), 22, .load false 1 (.t 19), none, []⟩, ⟨(some 21), 23, .len false (.t 20), none, []⟩, ⟨(some 22), 24, .bin .sub (.t 21) (.c (.i .i64 1)), none, []⟩, ⟨(some 23), 25, .call 87 [((.t 18), 0), ((.c (.i .i64 0)), 0), ((.t 22), 0)], none, []⟩, ⟨(some 24), 26, .un .not (.t 23), none, []⟩, ⟨(some 25), 27, .mv (.t 24), none, []⟩, ⟨(some 26), 28, .mv (.t 4), (some (25, false)), []⟩, ⟨(some 27), 29, .mv (.t 6), (some (25, false)), []⟩, ⟨(some 28), 30, .iaddr 1 (.t 26) (.t 27), (some (25, false)), []⟩, ⟨(some 29), 31, .load false 1 (.t 28), (some (25, false)), []⟩, ⟨(some 30), 32, .pick (.t 25) (.c (.b true)) (.t 29), none, []⟩])
 (.cond (.t 30)
 (.seq (.ops [⟨(some 2), 4, .mv (.c (.sl true 1 [])), none, []⟩, ⟨(some 3), 5, .mv (.c (.b false)), none, []⟩])
 .ret)
 .skip))
 (.ops [⟨(some 31), 33, .mv (.t 4), none, []⟩, ⟨(some 32), 34, .mv (.t 6), none, []⟩, ⟨(some 33), 35, .iaddr 1 (.t 31) (.t 32), none, []⟩, ⟨none, 1007003, .store 1 (.t 33) (.c (.b true)), none, []⟩]))))
 (.ops [⟨(some 34), 36, .bin .add (.t 14) (.c (.i .i64 1)), none, []⟩, ⟨(some 14), 16, .mv (.t 34), none, []⟩])))))))
 (.seq (.ops [⟨(some 35), 37, .mv (.t 4), none, []⟩, ⟨(some 2), 4, .mv (.t 35), none, []⟩, ⟨(some 3), 5, .mv (.c (.b true)), none, []⟩])
 .ret))))
theorem k88 : compCode Try.prog Try.f88.ntmps Try.f88.body.get! = some c88 := by kernel_rfl
theorem r88 : resTmps Try.prog Try.f88.results.toList = some [.tmp 2, .tmp 3] := by kernel_rfl
def c44 : TCode := (.seq (.ops [⟨(some 1), 3, .box 2 (.t 0), none, []⟩, ⟨(some 2), 4, .mv (.c (.b false)), none, []⟩])
 (.seq (.seq (.ops [⟨(some 7), 9, .faddr 0 1 (.t 1), none, []⟩, ⟨(some 8), 10, .load false 1 (.t 7), none, []⟩, ⟨(some 9), 11, .len false (.t 8), none, []⟩, ⟨(some 10), 12, .mv (.c (.i .i64 0)), none, []⟩])
 (.block 0 (.loop (.seq (.ops [⟨(some 11), 13, .bin .lss (.t 10) (.t 9), none, []⟩])
 (.seq (.cond (.t 11)
 .skip
 (.exit 0))
 (.seq (.block 1 (.seq (.ops [⟨(some 12), 14, .iaddr 1 (.t 8) (.t 10), none, []⟩, ⟨(some 13), 15, .load false 1 (.t 12), none, []⟩, ⟨(some 4), 6, .mv (.t 13), none, []⟩])
 (.seq (.ops [⟨(some 14), 16, .mv (.t 4), none, []⟩, ⟨(some 15), 17, .call 87 [((.t 14), 0), ((.c (.i .i64 0)), 0), ((.c (.i .i64 1000000)), 0)], none, []⟩, ⟨(some 16), 18, .un .not (.t 15), none, []⟩])
 (.cond (.t 16)
 (.seq (.ops [⟨(some 2), 4, .mv (.c (.b false)), none, []⟩])
 .ret)
 .skip))))
 (.ops [⟨(some 17), 19, .bin .add (.t 10) (.c (.i .i64 1)), none, []⟩, ⟨(some 10), 12, .mv (.t 17), none, []⟩])))))))
 (.seq (.ops [⟨(some 19), 21, .load true 2 (.t 1), none, []⟩, ⟨(some 20), 22, .call 88 [((.t 19), 0)], none, []⟩, ⟨(some 18), 20, .mv (.t 20), none, []⟩, ⟨(some 21), 23, .ext 0 (.t 18), none, []⟩, ⟨(some 22), 24, .ext 1 (.t 18), none, []⟩, ⟨(some 5), 7, .mv (.t 21), none, []⟩, ⟨(some 6), 8, .mv (.t 22), none, []⟩])
 (.seq (.ops [⟨(some 23), 25, .mv (.t 6), none, []⟩, ⟨(some 24), 26, .mv (.t 23), none, []⟩, ⟨(some 25), 27, .faddr 0 1 (.t 1), (some (24, true)), []⟩, ⟨(some 26), 28, .load false 1 (.t 25), (some (24, true)), []⟩, ⟨(some 27), 29, .len false (.t 26), (some (24, true)), []⟩, ⟨(some 28), 30, .bin .leq (.t 27) (.c (.i .i64 2000)), (some (24, true)), []⟩, ⟨(some 29), 31, .pick (.t 24) (.t 28) (.c (.b false)), none, []⟩, ⟨(some 2), 4, .mv (.t 29), none, []⟩])
 .ret))))
theorem k44 : compCode Try.prog Try.f44.ntmps Try.f44.body.get! = some c44 := by kernel_rfl
theorem r44 : resTmps Try.prog Try.f44.results.toList = some [.tmp 2] := by kernel_rfl
def c34 : TCode := (.seq (.ops [⟨(some 1), 3, .box 2 (.t 0), none, []⟩, ⟨(some 2), 4, .mv (.c (.b false)), none, []⟩])
 (.seq (.ops [⟨(some 8), 10, .faddr 0 1 (.t 1), none, []⟩, ⟨(some 9), 11, .load false 1 (.t 8), none, []⟩, ⟨(some 10), 12, .len false (.t 9), none, []⟩, ⟨(some 3), 5, .mv (.t 10), none, []⟩])
 (.seq (.seq (.ops [⟨(some 11), 13, .mv (.t 3), none, []⟩, ⟨(some 12), 14, .bin .gtr (.t 11) (.c (.i .i64 2000)), none, []⟩, ⟨(some 13), 15, .mv (.t 12), none, []⟩, ⟨(some 14), 16, .faddr 1 1 (.t 1), (some (13, false)), []⟩, ⟨(some 15), 17, .load false 1 (.t 14), (some (13, false)), []⟩, ⟨(some 16), 18, .len false (.t 15), (some (13, false)), []⟩, ⟨(some 17), 19, .mv (.t 3), (some (13, false)), []⟩, ⟨(some 18), 20, .bin .gtr (.t 16) (.t 17), (some (13, false)), []⟩, ⟨(some 19), 21, .pick (.t 13) (.c (.b true)) (.t 18), none, []⟩])
 (.cond (.t 19)
 (.seq (.ops [⟨(some 2), 4, .mv (.c (.b false)), none, []⟩])
 .ret)
 .skip))
 (.seq (.seq (.ops [⟨(some 4), 6, .mv (.c (.i .i64 0)), none, []⟩])
 (.block 0 (.loop (.seq (.seq (.ops [⟨(some 20), 22, .mv (.t 4), none, []⟩, ⟨(some 21), 23, .mv (.t 3), none, []⟩, ⟨(some 22), 24, .bin .lss (.t 20) (.t 21), none, []⟩])
 (.cond (.t 22)
 .skip
 (.exit 0)))
 (.seq (.block 1 (.seq (.ops [⟨(some 25), 27, .faddr 0 1 (.t 1), none, []⟩, ⟨(some 26), 28, .load false 1 (.t 25), none, []⟩, ⟨(some 27), 29, .mv (.t 4), none, []⟩, ⟨(some 28), 30, .iaddr 1 (.t 26) (.t 27), none, []⟩, ⟨(some 29), 31, .load false 1 (.t 28), none, []⟩, ⟨(some 30), 32, .call 38 [((.t 29), 0), ((.c (.i .i64 0)), 0), ((.c (.i .i64 1000000)), 0)], none, []⟩, ⟨(some 31), 33, .un .not (.t 30), none, []⟩])
 (.cond (.t 31)
 (.seq (.ops [⟨(some 2), 4, .mv (.c (.b false)), none, []⟩])
 .ret)
 .skip)))
 (.ops [⟨(some 23), 25, .mv (.t 4), none, []⟩, ⟨(some 24), 26, .bin .add (.t 23) (.c (.i .i64 1)), none, []⟩, ⟨(some 4), 6, .mv (.t 24), none, []⟩]))))))
 (.seq (.ops [⟨(some 32), 34, .mv (.t 3), none, []⟩, ⟨(some 33), 35, .mkslice 1 1 [(.b false)] (.t 32) (.t 32), none, []⟩, ⟨(some 5), 7, .mv (.t 33), none, []⟩])
 (.seq (.seq (.ops [⟨(some 6), 8, .mv (.c (.i .i64 0)), none, []⟩])
 (.block 2 (.loop (.seq (.seq (.ops [⟨(some 34), 36, .mv (.t 6), none, []⟩, ⟨(some 35), 37, .faddr 1 1 (.t 1), none, []⟩, ⟨(some 36), 38, .load false 1 (.t 35), none, []⟩, ⟨(some 37), 39, .len false (.t 36), none, []⟩, ⟨(some 38), 40, .bin .lss (.t 34) (.t 37), none, []⟩])
 (.cond (.t 38)
 .skip
 (.exit 2)))
 (.seq (.block 3 (.seq (.ops [⟨(some 41), 43, .faddr 1 1 (.t 1), none, []⟩, ⟨(some 42), 44, .load false 1 (.t 41), none, []⟩, ⟨(some 43), 45, .mv (.t 6), none, []⟩, ⟨(some 44), 46, .iaddr 1 (.t 42) (.t 43), none, []⟩, ⟨(some 45), 47, .load false 1 (.t 44), none, []⟩, ⟨(some 7), 9, .mv (.t 45), none, []⟩])
 (.seq (.seq (.ops [⟨(some 46), 48, .mv (.t 7), none, []⟩, ⟨(some 47), 49, .mv (.t 3), none, []⟩, ⟨(some 48), 50, .bin .sub (.t 47) (.c (.i .i64 1)), none, []⟩, ⟨(some 49), 51, .call 38 [((.t 46), 0), ((.c (.i .i64 0)), 0), ((.t 48), 0)], none, []⟩, ⟨(some 50), 52, .un .not (.t 49), none, []⟩, ⟨(some 51), 53, .mv (.t 50), none, []⟩, ⟨(some 52), 54, .mv (.t 5), (some (51, false)), []⟩, ⟨(some 53), 55, .mv (.t 7), (some (51, false)), []⟩, ⟨(some 54), 56, .iaddr 1 (.t 52) (.t 53), (some (51, false)), []⟩, ⟨(some 55), 57, .load false 1 (.t 54), (some (51, false)), []⟩, ⟨(some 56), 58, .pick (.t 51) (.c (.b true)) (.t 55), none, []⟩])
 (.cond (.t 56)
 (.seq (.ops [⟨(some 2), 4, .mv (.c (.b false)), none, []⟩])
 .ret)
 .skip))
 (.ops [⟨(some 57), 59, .mv (.t 5), none, []⟩, ⟨(some 58), 60, .mv (.t 7), none, []⟩, ⟨(some 59), 61, .iaddr 1 (.t 57) (.t 58), none, []⟩, ⟨none, 1016003, .store 1 (.t 59) (.c (.b true)), none, []⟩]))))
 (.ops [⟨(some 39), 41, .mv (.t 6), none, []⟩, ⟨(some 40), 42, .bin .add (.t 39) (.c (.i .i64 1)), none, []⟩, ⟨(some 6), 8, .mv (.t 40), none, []⟩]))))))
 (.seq (.ops [⟨(some 2), 4, .mv (.c (.b true)), none, []⟩])
 .ret)))))))
theorem k34 : compCode Try.prog Try.f34.ntmps Try.f34.body.get! = some c34 := by kernel_rfl
theorem r34 : resTmps Try.prog Try.f34.results.toList = some [.tmp 2] := by kernel_rfl
def entsR (g f : List Int) : TV := .ag [.sl false 1 (g.map iT), .sl false 1 (f.map iT)]
def entsO (g f : List Int) : TV := .ag [.sl true 1 (g.map iT), .sl true 1 (f.map iT)]
def freeOk (n : Nat) (f : List Int) : Prop := (∀ x ∈ f, 0 ≤ x ∧ x < n) ∧ f.Nodup
instance (n : Nat) (f : List Int) : Decidable (freeOk n f) := by unfold freeOk; infer_instance
def freeL (n : Nat) (f : List Int) : List Bool := (List.range n).map fun (i : Nat) => decide ((i : Int) ∈ f)
@[simp] theorem freeL_len (n : Nat) (f : List Int) : (freeL n f).length = n := by simp [freeL]
theorem freeL_get {n : Nat} {f : List Int} {x : Int} (h0 : 0 ≤ x) (h1 : x < n) : (freeL n f)[x.toNat]? = some (decide (x ∈ f)) := by
 have h : x.toNat < n := by omega
 simp [freeL, h, Int.toNat_of_nonneg h0]
theorem freeL_set {n : Nat} {f : List Int} {x : Int} (h0 : 0 ≤ x) (h1 : x < n) : (freeL n f).set x.toNat true = freeL n (f ++ [x]) := by
 have h : x.toNat < n := by omega
 apply List.ext_getElem?
 intro i
 rw [List.getElem?_set]
 simp only [freeL, List.getElem?_map]
 by_cases hi : i < n
 ·by_cases hx : x.toNat = i
  ·subst hx; simp [h, Int.toNat_of_nonneg h0]
  ·have : (i : Int) ≠ x := by omega
   simp [hx, hi, this]
 ·have : ¬ x.toNat = i := by omega
  simp [hi, this]
@[simp] theorem freeL_nil (n : Nat) : freeL n [] = List.replicate n false := by
 apply List.ext_getElem?; intro i; simp [freeL, List.getElem?_replicate]; by_cases h : i < n <;> simp [h]
theorem freeOk_snoc {n : Nat} {f : List Int} {x : Int} : freeOk n (f ++ [x]) ↔ freeOk n f ∧ (0 ≤ x ∧ x < n) ∧ x ∉ f := by
 unfold freeOk
 simp only [List.mem_append, List.mem_singleton, List.nodup_append, List.nodup_cons]
 constructor
 ·rintro ⟨h1, h2, _, h3⟩
  exact ⟨⟨fun y hy => h1 y (.inl hy), h2⟩, h1 x (.inr rfl), fun hx => h3 x hx x (by simp) rfl⟩
 ·rintro ⟨⟨h1, h2⟩, h3, h4⟩
  refine ⟨fun y hy => ?_, h2, by simp, fun y hy z hz => ?_⟩
  ·rcases hy with hy | rfl
   ·exact h1 y hy
   ·exact h3
  ·subst hz; rintro rfl; exact h4 hy
theorem freeOk_take {n : Nat} {f : List Int} (h : freeOk n f) (j : Nat) : freeOk n (f.take j) :=
 ⟨fun x hx => h.1 x (List.mem_of_mem_take hx), h.2.sublist (List.take_sublist j f)⟩
theorem w88 (g f : List Int) (hg : g.length ≤ 2^40) (hf : f.length ≤ 2^40) : Contract Try.prog false 88 [.ro] [entsR g f] [.sl true 1 (if freeOk g.length f then (freeL g.length f).map bT else []), .b (decide (freeOk g.length f))] [] := by
 refine mk_contract [] Try.func88 (c := Try.f88.body.get!) (by kernel_rfl) k88 r88 (of_decide_eq_true rfl) fun _ => ?_
 unfold c88 entsR; simp
 refine ⟨by omega, ?_⟩
 refine twp_for f.length (fun j s => s.t 1 = .pt [(3, 0)] 0 0 ∧ s.t 4 = .rf [(12, 0)] 0 g.length ∧ s.t 12 = .sl false 1 (f.map iT) ∧ s.t 13 = .i .i64 f.length ∧ s.t 14 = .i .i64 j ∧ freeOk g.length (f.take j) ∧
  s.H = lk [(1, []), (3, [.po true [.sl false 1 (g.map iT), .sl false 1 (f.map iT)]]), (12, [.sl true 1 ((freeL g.length (f.take j)).map bT)])]) [] (by simp) ?_ ?_
 ·simp [freeOk, bT]
 ·rintro j s hj ⟨q1, q4, q12, q13, q14, hok, qH⟩
  rw [nf_of qH]
  simp [q1, q4, q12, q13, q14]
  refine ⟨fun hlt => ?_, fun hge => ?_⟩
  ·obtain ⟨x, hx⟩ := get_some hlt
   have hw : IntKind.i64.wrap (j + 1) = j + 1 := wrap_id (by omega) (by omega)
   have hw2 : IntKind.i64.wrap (g.length - 1) = g.length - 1 := wrap_id (by omega) (by omega)
   have hsn := take_snoc hx
   simp [hx, hw, hw2, q1, q4, q12, q13, q14, iT]
   refine callW_ms [.ro, .ro, .ro] ?_
   simp
   by_cases hr : 0 ≤ x ∧ x ≤ (g.length : Int) - 1
   ·refine callX_of ((w87 _ _ _).t hr) (by simp) ?_
    have hgt := freeL_get (n := g.length) (f := f.take j) (x := x) hr.1 (by omega)
    have hset : (List.map bT (freeL g.length (f.take j))).set x.toNat [.b true] = List.map bT (freeL g.length (f.take (j + 1))) := by
     rw [hsn, ← freeL_set hr.1 (by omega)]; simp
    have hno : x ∈ f.take j → ¬ freeOk g.length f := fun hx2 h => by
     have := freeOk_take h (j + 1); rw [hsn, freeOk_snoc] at this; exact this.2.2 hx2
    simp [q1, q4, q12, q13, q14, hr.1, hgt, hw, hset]
    refine ⟨by omega, fun hx2 => by simp [hno hx2], fun hx2 => ⟨by omega, hlt, ?_⟩⟩
    rw [hsn, freeOk_snoc]; exact ⟨hok, ⟨hr.1, by omega⟩, hx2⟩
   ·refine callX_of ((w87 _ _ _).f hr) (by simp) ?_
    have hno : ¬ freeOk g.length f := fun h => by
     have := freeOk_take h (j + 1); rw [hsn, freeOk_snoc] at this; omega
    simp [hno]
  ·obtain rfl : j = f.length := by omega
   simp at hok
   simp [q4, hok]
def EntsOkP (g f : List Int) : Prop := (∀ x ∈ g, 0 ≤ x ∧ x ≤ 1000000) ∧ freeOk g.length f ∧ g.length ≤ 2000
instance (g f : List Int) : Decidable (EntsOkP g f) := by unfold EntsOkP; infer_instance
theorem w44 (g f : List Int) (hg : g.length ≤ 2^40) (hf : f.length ≤ 2^40) : Contract Try.prog false 44 [.ro] [entsR g f] [.b (decide (EntsOkP g f))] [] := by
 refine mk_contract [] Try.func44 (c := Try.f44.body.get!) (by kernel_rfl) k44 r44 (of_decide_eq_true rfl) fun _ => ?_
 unfold c44 entsR; simp
 refine twp_for g.length (fun j s => s.t 1 = .pt [(3, 0)] 0 0 ∧ s.t 8 = .sl false 1 (g.map iT) ∧ s.t 9 = .i .i64 g.length ∧ s.t 10 = .i .i64 j ∧ (∀ x ∈ g.take j, 0 ≤ x ∧ x ≤ 1000000) ∧
  s.H = lk [(1, []), (3, [.po true [.sl false 1 (g.map iT), .sl false 1 (f.map iT)]])]) [] (by simp) ?_ ?_
 ·simp
 ·rintro j s hj ⟨q1, q8, q9, q10, hok, qH⟩
  rw [nf_of qH]
  simp [q1, q8, q9, q10]
  refine ⟨fun hlt => ?_, fun hge => ?_⟩
  ·obtain ⟨x, hx⟩ := get_some hlt
   have hw : IntKind.i64.wrap (j + 1) = j + 1 := wrap_id (by omega) (by omega)
   simp [hx]
   refine callW_ms [.ro, .ro, .ro] ?_
   simp
   by_cases hr : 0 ≤ x ∧ x ≤ 1000000
   ·refine callX_of ((w87 _ _ _).t hr) (by simp) ?_
    simp [q1, q8, q9, q10, hw, take_snoc hx]
    refine ⟨hlt, fun y hy => ?_⟩
    rcases hy with hy | rfl
    ·exact hok y hy
    ·exact hr
   ·refine callX_of ((w87 _ _ _).f hr) (by simp) ?_
    simp
    intro h; exact absurd (h.1 x (List.mem_of_getElem? hx)) hr
  ·obtain rfl : j = g.length := by omega
   simp at hok
   simp [q1]
   refine callW_ms [.ro] ?_
   simp
   refine callX_of (w88 g f hg hf) (by simp) ?_
   simp
   by_cases hok2 : freeOk g.length f
   ·have hE : EntsOkP g f ↔ (g.length : Int) ≤ 2000 := ⟨fun h => by have := h.2.2; omega, fun h => ⟨hok, hok2, by omega⟩⟩
    simp [hok2, q1, hE]
   ·simp [hok2, EntsOkP]
theorem len_le_of_nodup : ∀ (n : Nat) (f : List Int), (∀ x ∈ f, 0 ≤ x ∧ x < n) → f.Nodup → f.length ≤ n
 | 0, [], _, _ => by simp
 | 0, x :: f, h, _ => by have := h x (by simp); omega
 | n + 1, f, h, hn => by
  have h1 := len_le_of_nodup n (f.erase (n : Int)) (fun x hx => by
   have h2 := (hn.mem_erase_iff).1 hx
   have h3 := h x h2.2
   have : x ≠ n := h2.1
   omega) (hn.erase _)
  by_cases hm : (n : Int) ∈ f
  ·rw [List.length_erase_of_mem hm] at h1; omega
  ·rw [List.erase_of_not_mem hm] at h1; omega
theorem w34 (g f : List Int) (hg : g.length ≤ 2^40) (hf : f.length ≤ 2^40) : Contract Try.prog false 34 [.ro] [entsR g f] [.b (decide (EntsOkP g f))] [] := by
 refine mk_contract [] Try.func34 (c := Try.f34.body.get!) (by kernel_rfl) k34 r34 (of_decide_eq_true rfl) fun _ => ?_
 unfold c34 entsR; simp
 by_cases h : (2000 : Int) < g.length
 ·have hE : ¬ EntsOkP g f := fun h2 => by have := h2.2.2; omega
  simp [h, hE]
 simp [h]
 refine ⟨fun h2 => ?_, fun h2 => ?_⟩
 ·simp [EntsOkP]
  intro _ h3; have := len_le_of_nodup _ _ h3.1 h3.2; omega
 refine twp_for g.length (fun j s => s.t 1 = .pt [(3, 0)] 0 0 ∧ s.t 3 = .i .i64 g.length ∧ s.t 4 = .i .i64 j ∧ (∀ x ∈ g.take j, 0 ≤ x ∧ x ≤ 1000000) ∧
  s.H = lk [(1, []), (3, [.po true [.sl false 1 (g.map iT), .sl false 1 (f.map iT)]])]) [] (by simp) ?_ ?_
 ·simp
 ·rintro j s hj ⟨q1, q3, q4, hok, qH⟩
  rw [nf_of qH]
  simp [q1, q3, q4]
  refine ⟨fun hlt => ?_, fun hge => ?_⟩
  ·obtain ⟨x, hx⟩ := get_some hlt
   have hw : IntKind.i64.wrap (j + 1) = j + 1 := wrap_id (by omega) (by omega)
   simp [hx]
   refine callW_ms [.ro, .ro, .ro] ?_
   simp
   by_cases hr : 0 ≤ x ∧ x ≤ 1000000
   ·refine callX_of ((w38 _ _ _).t hr) (by simp) ?_
    simp [q1, q3, q4, hw, take_snoc hx]
    refine ⟨hlt, fun y hy => ?_⟩
    rcases hy with hy | rfl
    ·exact hok y hy
    ·exact hr
   ·refine callX_of ((w38 _ _ _).f hr) (by simp) ?_
    simp
    intro h; exact absurd (h.1 x (List.mem_of_getElem? hx)) hr
  ·obtain rfl : j = g.length := by omega
   simp at hok
   simp [q1, q3]
   refine ⟨by omega, ?_⟩
   refine twp_for f.length (fun j s => s.t 1 = .pt [(3, 0)] 0 0 ∧ s.t 3 = .i .i64 g.length ∧ s.t 5 = .rf [(35, 0)] 0 g.length ∧ s.t 6 = .i .i64 j ∧ freeOk g.length (f.take j) ∧
    s.H = lk [(1, []), (3, [.po true [.sl false 1 (g.map iT), .sl false 1 (f.map iT)]]), (35, [.sl true 1 ((freeL g.length (f.take j)).map bT)])]) [] (by simp) ?_ ?_
   ·simp [q1, q3, freeOk]
   ·rintro j s hj ⟨q1, q3, q5, q6, hok, qH⟩
    rw [nf_of qH]
    simp [q1, q3, q5, q6]
    refine ⟨fun hlt => ?_, fun hge => ?_⟩
    ·obtain ⟨x, hx⟩ := get_some hlt
     have hw : IntKind.i64.wrap (j + 1) = j + 1 := wrap_id (by omega) (by omega)
     have hw2 : IntKind.i64.wrap (g.length - 1) = g.length - 1 := wrap_id (by omega) (by omega)
     have hsn := take_snoc hx
     simp [hx, hw2, q3]
     refine callW_ms [.ro, .ro, .ro] ?_
     simp
     by_cases hr : 0 ≤ x ∧ x ≤ (g.length : Int) - 1
     ·refine callX_of ((w38 _ _ _).t hr) (by simp) ?_
      have hgt := freeL_get (n := g.length) (f := f.take j) (x := x) hr.1 (by omega)
      have hset : (List.map bT (freeL g.length (f.take j))).set x.toNat [.b true] = List.map bT (freeL g.length (f.take (j + 1))) := by
       rw [hsn, ← freeL_set hr.1 (by omega)]; simp
      have hno : x ∈ f.take j → ¬ freeOk g.length f := fun hx2 h => by
       have := freeOk_take h (j + 1); rw [hsn, freeOk_snoc] at this; exact this.2.2 hx2
      simp [q1, q3, q5, q6, hr.1, hgt, hw, hset]
      refine ⟨by omega, fun hx2 => by simp [hno hx2, EntsOkP], fun hx2 => ⟨by omega, hlt, ?_⟩⟩
      rw [hsn, freeOk_snoc]; exact ⟨hok, ⟨hr.1, by omega⟩, hx2⟩
     ·refine callX_of ((w38 _ _ _).f hr) (by simp) ?_
      have hno : ¬ freeOk g.length f := fun h => by
       have := freeOk_take h (j + 1); rw [hsn, freeOk_snoc] at this; omega
      simp [hno, EntsOkP]
    ·obtain rfl : j = f.length := by omega
     simp at hok
     exact ⟨by assumption, hok, by omega⟩
end Go.Proofs.YtehmdblkkpdmoaaT


namespace Go.Proofs.YtehmdblkkpdmoaaT
set_option linter.unusedVariables false
set_option linter.unusedSimpArgs false
open Go
end Go.Proofs.YtehmdblkkpdmoaaT


namespace Go.Proofs.YtehmdblkkpdmoaaT
set_option linter.unusedVariables false
set_option linter.unusedSimpArgs false
open Go
def c95 : TCode := (.seq (.ops [⟨(some 4), 6, .mv (.c (.i .i64 0)), none, []⟩])
 (.seq (.seq (.ops [⟨(some 6), 8, .mv (.t 0), none, []⟩, ⟨(some 7), 9, .len false (.t 6), none, []⟩, ⟨(some 8), 10, .mv (.c (.i .i64 0)), none, []⟩])
 (.block 0 (.loop (.seq (.ops [⟨(some 9), 11, .bin .lss (.t 8) (.t 7), none, []⟩])
 (.seq (.cond (.t 9)
 .skip
 (.exit 0))
 (.seq (.block 1 (.seq (.ops [⟨(some 10), 12, .mv (.t 8), none, []⟩, ⟨(some 5), 7, .mv (.t 10), none, []⟩])
 (.seq (.ops [⟨(some 11), 13, .mv (.t 1), none, []⟩, ⟨(some 12), 14, .mv (.t 0), none, []⟩, ⟨(some 13), 15, .mv (.t 5), none, []⟩, ⟨(some 14), 16, .iaddr 1 (.t 12) (.t 13), none, []⟩, ⟨(some 15), 17, .load false 1 (.t 14), none, []⟩, ⟨(some 16), 18, .bin .eql (.t 11) (.t 15), none, []⟩])
 (.cond (.t 16)
 (.seq (.ops [⟨(some 17), 19, .mv (.t 5), none, []⟩, ⟨(some 4), 6, .mv (.t 17), none, []⟩])
 .ret)
 .skip))))
 (.ops [⟨(some 18), 20, .bin .add (.t 8) (.c (.i .i64 1)), none, []⟩, ⟨(some 8), 10, .mv (.t 18), none, []⟩])))))))
 (.seq (.ops [⟨(some 4), 6, .mv (.c (.i .i64 (-1))), none, []⟩])
 .ret)))
theorem k95 : compCode Try.prog Try.f95.ntmps Try.f95.body.get! = some c95 := by kernel_rfl
theorem r95 : resTmps Try.prog Try.f95.results.toList = some [.tmp 4] := by kernel_rfl
def c73 : TCode := (.seq (.ops [⟨(some 4), 6, .mv (.c (.b false)), none, []⟩])
 (.seq (.ops [⟨(some 5), 7, .mv (.t 0), none, []⟩, ⟨(some 6), 8, .mv (.t 1), none, []⟩, ⟨(some 7), 9, .call 95 [((.t 5), 0), ((.t 6), 0)], none, []⟩, ⟨(some 8), 10, .bin .geq (.t 7) (.c (.i .i64 0)), none, []⟩, ⟨(some 4), 6, .mv (.t 8), none, []⟩])
 .ret))
theorem k73 : compCode Try.prog Try.f73.ntmps Try.f73.body.get! = some c73 := by kernel_rfl
theorem r73 : resTmps Try.prog Try.f73.results.toList = some [.tmp 4] := by kernel_rfl
def c53 : TCode := (.seq (.ops [⟨(some 2), 4, .box 2 (.t 0), none, []⟩, ⟨(some 3), 5, .box 2 (.t 1), none, []⟩, ⟨(some 4), 6, .mv (.c (.b false)), none, []⟩])
 (.seq (.seq (.draw [⟨(some 6), 8, .faddr 0 1 (.t 3), none, []⟩, ⟨(some 7), 9, .load false 1 (.t 6), none, []⟩, ⟨(some 8), 10, .faddr 0 1 (.t 2), none, []⟩, ⟨(some 9), 11, .load false 1 (.t 8), none, []⟩, ⟨(some 10), 12, .len false (.t 9), none, []⟩, ⟨(some 11), 13, .bin .sub (.t 10) (.c (.i .i64 1)), none, []⟩, ⟨(some 12), 14, .call 38 [((.t 7), 0), ((.c (.i .i64 0)), 0), ((.t 11), 0)], none, []⟩, ⟨(some 13), 15, .un .not (.t 12), none, []⟩, ⟨(some 14), 16, .mv (.t 13), none, []⟩, ⟨(some 15), 17, .faddr 0 1 (.t 2), (some (14, false)), []⟩, ⟨(some 16), 18, .load false 1 (.t 15), (some (14, false)), []⟩, ⟨(some 17), 19, .faddr 0 1 (.t 3), (some (14, false)), []⟩, ⟨(some 18), 20, .load false 1 (.t 17), (some (14, false)), []⟩, ⟨(some 19), 21, .iaddr 1 (.t 16) (.t 18), (some (14, false)), []⟩, ⟨(some 20), 22, .load false 1 (.t 19), (some (14, false)), []⟩, ⟨(some 21), 23, .faddr 1 1 (.t 3), (some (14, false)), []⟩, ⟨(some 22), 24, .load false 1 (.t 21), (some (14, false)), []⟩, ⟨(some 23), 25, .bin .neq (.t 20) (.t 22), (some (14, false)), []⟩, ⟨(some 24), 26, .pick (.t 14) (.c (.b true)) (.t 23), none, []⟩])
 (.cond (.t 24)
 (.seq (.ops [⟨(some 4), 6, .mv (.c (.b false)), none, []⟩])
 .ret)
 .skip))
 (.seq (.seq (.ops [⟨(some 5), 7, .mv (.c (.i .i64 0)), none, []⟩])
 (.block 0 (.loop (.seq (.seq (.ops [⟨(some 25), 27, .mv (.t 5), none, []⟩, ⟨(some 26), 28, .faddr 1 1 (.t 2), none, []⟩, ⟨(some 27), 29, .load false 1 (.t 26), none, []⟩, ⟨(some 28), 30, .len false (.t 27), none, []⟩, ⟨(some 29), 31, .bin .lss (.t 25) (.t 28), none, []⟩])
 (.cond (.t 29)
 .skip
 (.exit 0)))
 (.seq (.block 1 (.seq (.draw [⟨(some 32), 34, .faddr 1 1 (.t 2), none, []⟩, ⟨(some 33), 35, .load false 1 (.t 32), none, []⟩, ⟨(some 34), 36, .mv (.t 5), none, []⟩, ⟨(some 35), 37, .iaddr 1 (.t 33) (.t 34), none, []⟩, ⟨(some 36), 38, .load false 1 (.t 35), none, []⟩, ⟨(some 37), 39, .faddr 0 1 (.t 3), none, []⟩, ⟨(some 38), 40, .load false 1 (.t 37), none, []⟩, ⟨(some 39), 41, .bin .eql (.t 36) (.t 38), none, []⟩])
 (.cond (.t 39)
 (.seq (.ops [⟨(some 4), 6, .mv (.c (.b false)), none, []⟩])
 .ret)
 .skip)))
 (.ops [⟨(some 30), 32, .mv (.t 5), none, []⟩, ⟨(some 31), 33, .bin .add (.t 30) (.c (.i .i64 1)), none, []⟩, ⟨(some 5), 7, .mv (.t 31), none, []⟩]))))))
 (.seq (.ops [⟨(some 4), 6, .mv (.c (.b true)), none, []⟩])
 .ret))))
theorem k53 : compCode Try.prog Try.f53.ntmps Try.f53.body.get! = some c53 := by kernel_rfl
theorem r53 : resTmps Try.prog Try.f53.results.toList = some [.tmp 4] := by kernel_rfl
def c56 : TCode := (.seq (.ops [⟨(some 3), 5, .box 2 (.t 1), none, []⟩, ⟨(some 4), 6, .mv (.c (.b false)), none, []⟩])
 (.seq (.draw [⟨(some 5), 7, .faddr 0 1 (.t 3), none, []⟩, ⟨(some 6), 8, .load false 1 (.t 5), none, []⟩, ⟨(some 7), 9, .mv (.t 0), none, []⟩, ⟨(some 8), 10, .nilck (.t 7), none, []⟩, ⟨(some 9), 11, .faddr 0 1 (.t 8), none, []⟩, ⟨(some 10), 12, .load false 1 (.t 9), none, []⟩, ⟨(some 11), 13, .len false (.t 10), none, []⟩, ⟨(some 12), 14, .bin .sub (.t 11) (.c (.i .i64 1)), none, []⟩, ⟨(some 13), 15, .call 87 [((.t 6), 0), ((.c (.i .i64 0)), 0), ((.t 12), 0)], none, []⟩, ⟨(some 14), 16, .mv (.t 13), none, []⟩, ⟨(some 15), 17, .mv (.t 0), (some (14, true)), []⟩, ⟨(some 16), 18, .nilck (.t 15), (some (14, true)), []⟩, ⟨(some 17), 19, .faddr 0 1 (.t 16), (some (14, true)), []⟩, ⟨(some 18), 20, .load false 1 (.t 17), (some (14, true)), []⟩, ⟨(some 19), 21, .faddr 0 1 (.t 3), (some (14, true)), []⟩, ⟨(some 20), 22, .load false 1 (.t 19), (some (14, true)), []⟩, ⟨(some 21), 23, .iaddr 1 (.t 18) (.t 20), (some (14, true)), []⟩, ⟨(some 22), 24, .load false 1 (.t 21), (some (14, true)), []⟩, ⟨(some 23), 25, .faddr 1 1 (.t 3), (some (14, true)), []⟩, ⟨(some 24), 26, .load false 1 (.t 23), (some (14, true)), []⟩, ⟨(some 25), 27, .bin .eql (.t 22) (.t 24), (some (14, true)), []⟩, ⟨(some 26), 28, .pick (.t 14) (.t 25) (.c (.b false)), none, []⟩, ⟨(some 27), 29, .mv (.t 26), none, []⟩, ⟨(some 28), 30, .mv (.t 0), (some (27, true)), []⟩, ⟨(some 29), 31, .nilck (.t 28), (some (27, true)), []⟩, ⟨(some 30), 32, .faddr 1 1 (.t 29), (some (27, true)), []⟩, ⟨(some 31), 33, .load false 1 (.t 30), (some (27, true)), []⟩, ⟨(some 32), 34, .faddr 0 1 (.t 3), (some (27, true)), []⟩, ⟨(some 33), 35, .load false 1 (.t 32), (some (27, true)), []⟩, ⟨(some 34), 36, .call 73 [((.t 31), 0), ((.t 33), 0)], (some (27, true)), []⟩, ⟨(some 35), 37, .un .not (.t 34), (some (27, true)), []⟩, ⟨(some 36), 38, .pick (.t 27) (.t 35) (.c (.b false)), none, []⟩, ⟨(some 4), 6, .mv (.t 36), none, []⟩])
 .ret))
theorem k56 : compCode Try.prog Try.f56.ntmps Try.f56.body.get! = some c56 := by kernel_rfl
theorem r56 : resTmps Try.prog Try.f56.results.toList = some [.tmp 4] := by kernel_rfl
def entT (x y : Int) : TV := .ag [.i .i64 x, .i .i64 y]
def idxF (l : List Int) (x : Int) : Int := if x ∈ l then (l.idxOf x : Int) else -1
theorem idxF_at {l : List Int} {x : Int} {j : Nat} (h : l[j]? = some x) (hn : x ∉ l.take j) : idxF l x = j := by
 have hm := List.mem_of_getElem? h
 have hj := (List.getElem?_eq_some_iff.1 h).1
 have hl : l = l.take j ++ x :: l.drop (j + 1) := by
  have := (List.getElem?_eq_some_iff.1 h).2
  rw [← this, ← List.drop_eq_getElem_cons hj, List.take_append_drop]
 unfold idxF
 rw [if_pos hm]
 have : l.idxOf x = j := by
  rw [hl, List.idxOf_append, if_neg hn]
  simp [Nat.min_eq_left (Nat.le_of_lt hj)]
 rw [this]
theorem idxF_ge (l : List Int) (x : Int) : 0 ≤ idxF l x ↔ x ∈ l := by
 unfold idxF; split
 ·rename_i h; exact ⟨fun _ => h, fun _ => by omega⟩
 ·rename_i h; exact ⟨fun h2 => by omega, fun h2 => absurd h2 h⟩
theorem w95 (l : List Int) (x : Int) (hl : l.length ≤ 2^40) : Contract Try.prog false 95 [.ro, .ro] [.sl false 1 (l.map iT), .i .i64 x] [.i .i64 (idxF l x)] [] := by
 refine mk_contract [] Try.func95 (c := Try.f95.body.get!) (by kernel_rfl) k95 r95 (of_decide_eq_true rfl) fun _ => ?_
 unfold c95; simp
 refine twp_for l.length (fun j s => s.t 0 = .sl false 1 (l.map iT) ∧ s.t 1 = .i .i64 x ∧ s.t 7 = .i .i64 l.length ∧ s.t 8 = .i .i64 j ∧ x ∉ l.take j ∧ s.H = lk [(1, [])]) [] (by simp) ?_ ?_
 ·simp
 ·rintro j s hj ⟨q0, q1, q7, q8, hn, qH⟩
  rw [nf_of qH]
  simp [q0, q1, q7, q8]
  refine ⟨fun hlt => ?_, fun hge => ?_⟩
  ·have hw : IntKind.i64.wrap (j + 1) = j + 1 := wrap_id (by omega) (by omega)
   obtain ⟨y, hy⟩ := get_some hlt
   simp [hy, hw, q0, q1, q7, q8]
   refine ⟨fun hxy => ?_, fun hxy => ⟨hlt, ?_⟩⟩
   ·subst hxy; exact (idxF_at hy hn).symm
   ·rw [take_snoc hy]; simp; exact ⟨hn, hxy⟩
  ·obtain rfl : j = l.length := by omega
   rw [List.take_of_length_le (Nat.le_refl _)] at hn
   simp [idxF, hn]
theorem w73 (l : List Int) (x : Int) (hl : l.length ≤ 2^40) : Contract Try.prog false 73 [.ro, .ro] [.sl false 1 (l.map iT), .i .i64 x] [.b (decide (x ∈ l))] [] := by
 refine mk_contract [] Try.func73 (c := Try.f73.body.get!) (by kernel_rfl) k73 r73 (of_decide_eq_true rfl) fun _ => ?_
 unfold c73; simp
 refine callW_ms [.ro, .ro] ?_
 simp
 refine callX_of (w95 l x hl) (by simp) ?_
 simp [idxF_ge]
def liveP (g f : List Int) (x y : Int) : Prop := (0 ≤ x ∧ x ≤ (g.length : Int) - 1) ∧ g[x.toNat]? = some y ∧ x ∉ f
instance (g f : List Int) (x y : Int) : Decidable (liveP g f x y) := by unfold liveP; infer_instance
theorem w53 (g f : List Int) (x y : Int) (hg : g.length ≤ 2^40) (hf : f.length ≤ 2^40) : Contract Try.prog false 53 [.ro, .ro] [entsR g f, entT x y] [.b (decide (liveP g f x y))] [] := by
 refine mk_contract [] Try.func53 (c := Try.f53.body.get!) (by kernel_rfl) k53 r53 (of_decide_eq_true rfl) fun _ => ?_
 have hw2 : IntKind.i64.wrap (g.length - 1) = g.length - 1 := wrap_id (by omega) (by omega)
 unfold c53 entT entsR; simp [hw2]
 refine callW_ms [.ro, .ro, .ro] ?_
 simp
 by_cases hr : 0 ≤ x ∧ x ≤ (g.length : Int) - 1
 ·refine callX_of ((w38 _ _ _).t hr) (by simp) ?_
  obtain ⟨z, hz⟩ := get_some (l := g) (j := x.toNat) (by omega)
  by_cases hzy : z = y
  ·subst hzy
   simp [hr.1, hz]
   refine twp_for f.length (fun j s => s.t 2 = .pt [(4, 0)] 0 0 ∧ s.t 3 = .pt [(5, 0)] 0 0 ∧ s.t 5 = .i .i64 j ∧ x ∉ f.take j ∧
    s.H = lk [(1, []), (4, [.po true [.sl false 1 (g.map iT), .sl false 1 (f.map iT)]]), (5, [.po true [.i .i64 x, .i .i64 z]])]) [] (by simp) ?_ ?_
   ·simp
   ·rintro j s hj ⟨q2, q3, q5, hn, qH⟩
    rw [nf_of qH]
    simp [q2, q3, q5]
    refine ⟨fun hlt => ?_, fun hge => ?_⟩
    ·have hw : IntKind.i64.wrap (j + 1) = j + 1 := wrap_id (by omega) (by omega)
     obtain ⟨u, hu⟩ := get_some hlt
     simp [hu, hw, q2, q3, q5]
     refine ⟨fun hux => ?_, fun hux => ⟨hlt, ?_⟩⟩
     ·subst hux
      intro h; exact h.2.2 (List.mem_of_getElem? hu)
     ·rw [take_snoc hu]; simp; exact ⟨hn, fun h => hux h.symm⟩
    ·obtain rfl : j = f.length := by omega
     rw [List.take_of_length_le (Nat.le_refl _)] at hn
     exact ⟨hr, hz, hn⟩
  ·have : ¬ liveP g f x y := fun h => by have := h.2.1; rw [hz] at this; cases this; exact hzy rfl
   simp [hr.1, hz, hzy, this]
 ·refine callX_of ((w38 _ _ _).f hr) (by simp) ?_
  have : ¬ liveP g f x y := fun h => hr h.1
  simp [this]
end Go.Proofs.YtehmdblkkpdmoaaT


namespace Go.Proofs.YtehmdblkkpdmoaaT
set_option linter.unusedVariables false
set_option linter.unusedSimpArgs false
open Go
def c143 : TCode := (.seq (.ops [⟨(some 1), 3, .box 2 (.t 0), none, []⟩, ⟨(some 2), 4, .box 2 (.c (.ag [(.sl true 1 []), (.sl true 1 [])])), none, []⟩])
 (.seq (.draw [⟨(some 3), 5, .bslice 1 0 [(.i .i64 0)] [], none, []⟩, ⟨(some 4), 6, .faddr 0 1 (.t 1), none, [0]⟩, ⟨(some 5), 7, .load false 1 (.t 4), none, [0]⟩, ⟨(some 6), 8, .app 1 8 (.t 3) (.t 5), none, []⟩, ⟨(some 7), 9, .bslice 1 0 [(.i .i64 0)] [], none, [0, 1, 2, 3]⟩, ⟨(some 8), 10, .faddr 1 1 (.t 1), none, [0, 3, 4]⟩, ⟨(some 9), 11, .load false 1 (.t 8), none, [0, 3, 4]⟩, ⟨(some 10), 12, .app 1 8 (.t 7) (.t 9), none, []⟩, ⟨(some 11), 13, .build [(.sl true 1 []), (.sl true 1 [])] [(0, 1, (.t 6)), (1, 1, (.t 10))], none, []⟩, ⟨none, 1001009, .store 2 (.t 2) (.t 11), none, []⟩])
 .ret))
theorem k143 : compCode Try.prog Try.f143.ntmps Try.f143.body.get! = some c143 := by kernel_rfl
theorem r143 : resTmps Try.prog Try.f143.results.toList = some [.cell 2 true 2] := by kernel_rfl
def c147 : TCode := (.seq (.ops [⟨(some 2), 4, .box 2 (.t 0), none, []⟩, ⟨(some 3), 5, .box 2 (.t 1), none, []⟩, ⟨(some 4), 6, .box 2 (.c (.ag [(.sl true 1 []), (.sl true 1 [])])), none, []⟩])
 (.seq (.ops [⟨(some 5), 7, .faddr 0 1 (.t 2), none, []⟩, ⟨(some 6), 8, .load false 1 (.t 5), none, []⟩, ⟨(some 7), 9, .faddr 0 1 (.t 3), none, []⟩, ⟨(some 8), 10, .load false 1 (.t 7), none, []⟩, ⟨(some 9), 11, .faddr 1 1 (.t 3), none, []⟩, ⟨(some 10), 12, .load false 1 (.t 9), none, []⟩, ⟨(some 11), 13, .bin .add (.t 10) (.c (.i .i64 1)), none, []⟩, ⟨(some 12), 14, .iaddr 1 (.t 6) (.t 8), none, []⟩, ⟨none, 1001008, .store 1 (.t 12) (.t 11), none, []⟩])
 (.seq (.seq (.ops [⟨(some 13), 15, .faddr 1 1 (.t 3), none, []⟩, ⟨(some 14), 16, .load false 1 (.t 13), none, []⟩, ⟨(some 15), 17, .bin .geq (.t 14) (.c (.i .i64 1000000)), none, []⟩])
 (.cond (.t 15)
 (.ops [⟨(some 16), 18, .faddr 0 1 (.t 2), none, []⟩, ⟨(some 17), 19, .load false 1 (.t 16), none, []⟩, ⟨(some 18), 20, .faddr 0 1 (.t 3), none, []⟩, ⟨(some 19), 21, .load false 1 (.t 18), none, []⟩, ⟨(some 20), 22, .iaddr 1 (.t 17) (.t 19), none, []⟩, ⟨none, 1003005, .store 1 (.t 20) (.c (.i .i64 0)), none, []⟩])
 .skip))
 (.seq (.ops [⟨(some 21), 23, .faddr 1 1 (.t 2), none, []⟩, ⟨(some 22), 24, .load false 1 (.t 21), none, []⟩, ⟨(some 23), 25, .faddr 0 1 (.t 3), none, []⟩, ⟨(some 24), 26, .load false 1 (.t 23), none, []⟩, ⟨(some 25), 27, .bslice 1 1 [(.i .i64 0)] [(0, (.t 24))], none, []⟩, ⟨(some 26), 28, .app 1 8 (.t 22) (.t 25), none, []⟩, ⟨(some 27), 29, .faddr 1 1 (.t 2), none, []⟩, ⟨none, 1004007, .store 1 (.t 27) (.t 26), none, []⟩])
 (.seq (.ops [⟨(some 28), 30, .load true 2 (.t 2), none, []⟩, ⟨none, 1005001, .store 2 (.t 4) (.t 28), none, []⟩])
 .ret)))))
theorem k147 : compCode Try.prog Try.f147.ntmps Try.f147.body.get! = some c147 := by kernel_rfl
theorem r147 : resTmps Try.prog Try.f147.results.toList = some [.cell 4 true 2] := by kernel_rfl
theorem w143 (g f : List Int) (hg : g.length ≤ 2^40) (hf : f.length ≤ 2^40) : Contract Try.prog false 143 [.ro] [entsR g f] [entsO g f] [] := by
 refine mk_contract [] Try.func143 (c := Try.f143.body.get!) (by kernel_rfl) k143 r143 (of_decide_eq_true rfl) fun _ => ?_
 unfold c143 entsR entsO; simp
 omega
def giveG (g : List Int) (x y : Int) : List Int := g.set x.toNat (if 1000000 ≤ y then 0 else y + 1)
@[simp] theorem giveG_len (g : List Int) (x y : Int) : (giveG g x y).length = g.length := by simp [giveG]
theorem w147 (g f : List Int) (x y : Int) (hf : f.length ≤ 2^40) (hx0 : 0 ≤ x) (hxg : g[x.toNat]? = some y) (hy : 0 ≤ y ∧ y ≤ 1000000) : Contract Try.prog false 147 [.own, .ro] [entsO g f, entT x y] [entsO (giveG g x y) (f ++ [x])] [none, none] := by
 refine mk_contract [none, none] Try.func147 (c := Try.f147.body.get!) (by kernel_rfl) k147 r147 (of_decide_eq_true rfl) fun _ => ?_
 have hlt := (List.getElem?_eq_some_iff.1 hxg).1
 have hw : IntKind.i64.wrap (y + 1) = y + 1 := wrap_id (by omega) (by omega)
 have hs : ∀ e, ((g.map iT).set x.toNat e)[x.toNat]? = some e := fun e => by simp [hlt]
 unfold c147; unfold entsO entT; simp [hw, hx0, hxg, hs]
 refine ⟨by omega, fun hge => ?_, fun hlt2 => ?_⟩
 ·simp [giveG, hge]; omega
 ·simp [giveG, show ¬ 1000000 ≤ y by omega]; omega
end Go.Proofs.YtehmdblkkpdmoaaT


namespace Go.Proofs.YtehmdblkkpdmoaaT
set_option linter.unusedVariables false
set_option linter.unusedSimpArgs false
open Go
def c28 : TCode := (.seq (.ops [⟨(some 1), 3, .box 2 (.t 0), none, []⟩, ⟨(some 2), 4, .mv (.c (.sl true 2 [])), none, []⟩])
 (.seq (.ops [⟨(some 7), 9, .bslice 2 0 [(.i .i64 0), (.i .i64 0)] [], none, []⟩, ⟨(some 3), 5, .mv (.t 7), none, []⟩])
 (.seq (.seq (.ops [⟨(some 8), 10, .load true 2 (.t 1), none, []⟩, ⟨(some 9), 11, .call 34 [((.t 8), 0)], none, []⟩, ⟨(some 10), 12, .un .not (.t 9), none, []⟩])
 (.cond (.t 10)
 (.seq (.ops [⟨(some 11), 13, .mv (.t 3), none, []⟩, ⟨(some 2), 4, .mv (.t 11), none, []⟩])
 .ret)
 .skip))
 (.seq (.ops [⟨(some 12), 14, .faddr 0 1 (.t 1), none, []⟩, ⟨(some 13), 15, .load false 1 (.t 12), none, []⟩, ⟨(some 14), 16, .len false (.t 13), none, []⟩, ⟨(some 15), 17, .mkslice 1 1 [(.b false)] (.t 14) (.t 14), none, []⟩, ⟨(some 4), 6, .mv (.t 15), none, []⟩])
 (.seq (.seq (.ops [⟨(some 5), 7, .mv (.c (.i .i64 0)), none, []⟩])
 (.block 0 (.loop (.seq (.seq (.ops [⟨(some 16), 18, .mv (.t 5), none, []⟩, ⟨(some 17), 19, .faddr 1 1 (.t 1), none, []⟩, ⟨(some 18), 20, .load false 1 (.t 17), none, []⟩, ⟨(some 19), 21, .len false (.t 18), none, []⟩, ⟨(some 20), 22, .bin .lss (.t 16) (.t 19), none, []⟩])
 (.cond (.t 20)
 .skip
 (.exit 0)))
 (.seq (.block 1 (.ops [⟨(some 23), 25, .mv (.t 4), none, []⟩, ⟨(some 24), 26, .faddr 1 1 (.t 1), none, []⟩, ⟨(some 25), 27, .load false 1 (.t 24), none, []⟩, ⟨(some 26), 28, .mv (.t 5), none, []⟩, ⟨(some 27), 29, .iaddr 1 (.t 25) (.t 26), none, []⟩, ⟨(some 28), 30, .load false 1 (.t 27), none, []⟩, ⟨(some 29), 31, .iaddr 1 (.t 23) (.t 28), none, []⟩, ⟨none, 1008007, .store 1 (.t 29) (.c (.b true)), none, []⟩]))
 (.ops [⟨(some 21), 23, .mv (.t 5), none, []⟩, ⟨(some 22), 24, .bin .add (.t 21) (.c (.i .i64 1)), none, []⟩, ⟨(some 5), 7, .mv (.t 22), none, []⟩]))))))
 (.seq (.seq (.ops [⟨(some 6), 8, .mv (.c (.i .i64 0)), none, []⟩])
 (.block 2 (.loop (.seq (.seq (.ops [⟨(some 30), 32, .mv (.t 6), none, []⟩, ⟨(some 31), 33, .faddr 0 1 (.t 1), none, []⟩, ⟨(some 32), 34, .load false 1 (.t 31), none, []⟩, ⟨(some 33), 35, .len false (.t 32), none, []⟩, ⟨(some 34), 36, .bin .lss (.t 30) (.t 33), none, []⟩])
 (.cond (.t 34)
 .skip
 (.exit 2)))
 (.seq (.block 3 (.seq (.ops [⟨(some 37), 39, .mv (.t 4), none, []⟩, ⟨(some 38), 40, .mv (.t 6), none, []⟩, ⟨(some 39), 41, .iaddr 1 (.t 37) (.t 38), none, []⟩, ⟨(some 40), 42, .load false 1 (.t 39), none, []⟩, ⟨(some 41), 43, .un .not (.t 40), none, []⟩])
 (.cond (.t 41)
 (.ops [⟨(some 42), 44, .mv (.t 3), none, []⟩, ⟨(some 43), 45, .mv (.t 6), none, []⟩, ⟨(some 44), 46, .faddr 0 1 (.t 1), none, []⟩, ⟨(some 45), 47, .load false 1 (.t 44), none, []⟩, ⟨(some 46), 48, .mv (.t 6), none, []⟩, ⟨(some 47), 49, .iaddr 1 (.t 45) (.t 46), none, []⟩, ⟨(some 48), 50, .load false 1 (.t 47), none, []⟩, ⟨(some 49), 51, .build [(.i .i64 0), (.i .i64 0)] [(0, 1, (.t 43)), (1, 1, (.t 48))], none, []⟩, ⟨(some 50), 52, .bslice 2 1 [(.i .i64 0), (.i .i64 0)] [(0, (.t 49))], none, []⟩, ⟨(some 51), 53, .app 2 16 (.t 42) (.t 50), none, []⟩, ⟨(some 3), 5, .mv (.t 51), none, []⟩])
 .skip)))
 (.ops [⟨(some 35), 37, .mv (.t 6), none, []⟩, ⟨(some 36), 38, .bin .add (.t 35) (.c (.i .i64 1)), none, []⟩, ⟨(some 6), 8, .mv (.t 36), none, []⟩]))))))
 (.seq (.ops [⟨(some 52), 54, .mv (.t 3), none, []⟩, ⟨(some 2), 4, .mv (.t 52), none, []⟩])
 .ret)))))))
theorem k28 : compCode Try.prog Try.f28.ntmps Try.f28.body.get! = some c28 := by kernel_rfl
theorem r28 : resTmps Try.prog Try.f28.results.toList = some [.tmp 2] := by kernel_rfl
@[simp] def eT (p : Int × Int) : List TV := [.i .i64 p.1, .i .i64 p.2]
@[simp] theorem fzL_eT (p : Int × Int) : fzL (eT p) = eT p := rfl
@[simp] theorem fzLL_eT (l : List (Int × Int)) : fzLL (l.map eT) = l.map eT := fzLL_map fzL_eT l
@[simp] theorem noROLL_eT (l : List (Int × Int)) : noROLL (l.map eT) = true := noROLL_map (fun _ => rfl) l
@[simp] theorem noref_eT (l : List (Int × Int)) : (l.map eT).all (·.all noref) = true := noref_map (fun _ => rfl) l
@[simp] theorem srcT_eT (H : Hp) (z : Nat) (l : List (Int × Int)) : srcT H (.sl false z (l.map eT)) = some (z, l.map eT, H, []) := by simp only [srcT, noref_eT, if_true]
def liveG (g f : List Int) : Nat → List (Int × Int)
 | 0 => []
 | n + 1 => liveG g f n ++ (if (n : Int) ∈ f then [] else [((n : Int), (g[n]?).getD 0)])
theorem liveG_len (g f : List Int) (n : Nat) : (liveG g f n).length ≤ n := by
 induction n with
 | zero => simp [liveG]
 | succ n ih => simp only [liveG, List.length_append]; split <;> simp <;> omega
def entListF (g f : List Int) : List (Int × Int) := if EntsOkP g f then liveG g f g.length else []
theorem entListF_len (g f : List Int) : (entListF g f).length ≤ g.length := by
 unfold entListF; split
 ·exact liveG_len ..
 ·simp
theorem w28 (g f : List Int) (hg : g.length ≤ 2^40) (hf : f.length ≤ 2^40) : Contract Try.prog false 28 [.ro] [entsR g f] [.sl true 2 ((entListF g f).map eT)] [] := by
 refine mk_contract [] Try.func28 (c := Try.f28.body.get!) (by kernel_rfl) k28 r28 (of_decide_eq_true rfl) fun _ => ?_
 unfold c28; unfold entsR; simp
 refine callW_ms [.ro] ?_
 simp
 refine callX_of (w34 g f hg hf) (by simp) ?_
 simp
 refine ⟨fun hE => ?_, fun hE => ?_⟩
 ·refine ⟨by omega, ?_⟩
  refine twp_for f.length (fun j s => s.t 1 = .pt [(3, 0)] 0 0 ∧ s.t 3 = .rf [(9, 0)] 0 0 ∧ s.t 4 = .rf [(17, 0)] 0 g.length ∧ s.t 5 = .i .i64 j ∧ s.H = lk [(1, []), (3, [.po true [.sl false 1 (g.map iT), .sl false 1 (f.map iT)]]), (9, [.sl true 2 []]), (17, [.sl true 1 ((freeL g.length (f.take j)).map bT)])]) [] (by simp) ?_ ?_
  ·simp
  ·rintro j s hj ⟨q1, q3, q4, q5, qH⟩
   rw [nf_of qH]
   simp [q1, q3, q4, q5]
   refine ⟨fun hlt => ?_, fun hge => ?_⟩
   ·have hw : IntKind.i64.wrap (j + 1) = j + 1 := wrap_id (by omega) (by omega)
    obtain ⟨x, hx⟩ := get_some hlt
    have hb := hE.2.1.1 x (List.mem_of_getElem? hx)
    have hgt := freeL_get (n := g.length) (f := f.take j) (x := x) hb.1 hb.2
    have hset : (List.map bT (freeL g.length (f.take j))).set x.toNat [.b true] = List.map bT (freeL g.length (f.take (j + 1))) := by
     rw [take_snoc hx, ← freeL_set hb.1 hb.2]; simp
    simp [hx, hw, q1, q3, q4, q5, hb.1, hb.2, hgt, hset]
    omega
   ·obtain rfl : j = f.length := by omega
    simp [q1, q3, q4, q5]
    refine twp_forR g.length (fun j s => s.t 1 = .pt [(3, 0)] 0 0 ∧ s.t 3 = .rf [(53, 0)] 0 (liveG g f j).length ∧ s.t 4 = .rf [(17, 0)] 0 g.length ∧ s.t 6 = .i .i64 j ∧ s.H = lk [(1, []), (3, [.po true [.sl false 1 (g.map iT), .sl false 1 (f.map iT)]]), (53, [.sl true 2 ((liveG g f j).map eT)]), (17, [.sl true 1 ((freeL g.length f).map bT)])]) [52] [(9, 53)] (by simp) (by simp) ?_ ?_
    ·simp [q1, q3, q4, liveG]
    ·rintro j s hj ⟨q1, q3, q4, q6, qH⟩
     rw [nf_of qH]
     simp [q1, q3, q4, q6]
     refine ⟨fun hlt => ?_, fun hge => ?_⟩
     ·have hw : IntKind.i64.wrap (j + 1) = j + 1 := wrap_id (by omega) (by omega)
      obtain ⟨x, hx⟩ := get_some hlt
      have hgt := freeL_get (n := g.length) (f := f) (x := j) (by omega) (by omega)
      simp at hgt
      have hll := liveG_len g f j
      simp [hx, hw, q1, q3, q4, q6, hgt]
      refine ⟨hlt, fun h => ?_, fun h => ?_⟩
      ·simp [liveG, h, hlt]
      ·refine ⟨by omega, hlt, ?_⟩; simp [liveG, h, hx]
     ·obtain rfl : j = g.length := by omega
      simp [q1, q3, q4, q6, entListF, hE]
 ·simp [entListF, hE]
end Go.Proofs.YtehmdblkkpdmoaaT


namespace Go.Proofs.YtehmdblkkpdmoaaT
set_option linter.unusedVariables false
set_option linter.unusedSimpArgs false
open Go
def c114 : TCode := (.seq (.ops [⟨(some 2), 4, .mv (.c (.b false)), none, []⟩])
 (.seq (.ops [⟨(some 3), 5, .mv (.t 0), none, []⟩, ⟨(some 4), 6, .bin .geq (.t 3) (.c (.i .u8 97)), none, []⟩, ⟨(some 5), 7, .mv (.t 4), none, []⟩, ⟨(some 6), 8, .mv (.t 0), (some (5, true)), []⟩, ⟨(some 7), 9, .bin .leq (.t 6) (.c (.i .u8 122)), (some (5, true)), []⟩, ⟨(some 8), 10, .pick (.t 5) (.t 7) (.c (.b false)), none, []⟩, ⟨(some 9), 11, .mv (.t 8), none, []⟩, ⟨(some 10), 12, .mv (.t 0), (some (9, false)), []⟩, ⟨(some 11), 13, .bin .geq (.t 10) (.c (.i .u8 65)), (some (9, false)), []⟩, ⟨(some 12), 14, .mv (.t 11), (some (9, false)), []⟩, ⟨(some 13), 15, .mv (.t 0), (some (12, true)), []⟩, ⟨(some 14), 16, .bin .leq (.t 13) (.c (.i .u8 90)), (some (12, true)), []⟩, ⟨(some 15), 17, .pick (.t 12) (.t 14) (.c (.b false)), (some (9, false)), []⟩, ⟨(some 16), 18, .pick (.t 9) (.c (.b true)) (.t 15), none, []⟩, ⟨(some 2), 4, .mv (.t 16), none, []⟩])
 .ret))
theorem k114 : compCode Try.prog Try.f114.ntmps Try.f114.body.get! = some c114 := by kernel_rfl
theorem r114 : resTmps Try.prog Try.f114.results.toList = some [.tmp 2] := by kernel_rfl
def c118 : TCode := (.seq (.ops [⟨(some 2), 4, .mv (.c (.b false)), none, []⟩])
 (.seq (.ops [⟨(some 3), 5, .mv (.t 0), none, []⟩, ⟨(some 4), 6, .bin .geq (.t 3) (.c (.i .u8 97)), none, []⟩, ⟨(some 5), 7, .mv (.t 4), none, []⟩, ⟨(some 6), 8, .mv (.t 0), (some (5, true)), []⟩, ⟨(some 7), 9, .bin .leq (.t 6) (.c (.i .u8 122)), (some (5, true)), []⟩, ⟨(some 8), 10, .pick (.t 5) (.t 7) (.c (.b false)), none, []⟩, ⟨(some 9), 11, .mv (.t 8), none, []⟩, ⟨(some 10), 12, .mv (.t 0), (some (9, false)), []⟩, ⟨(some 11), 13, .bin .geq (.t 10) (.c (.i .u8 65)), (some (9, false)), []⟩, ⟨(some 12), 14, .mv (.t 11), (some (9, false)), []⟩, ⟨(some 13), 15, .mv (.t 0), (some (12, true)), []⟩, ⟨(some 14), 16, .bin .leq (.t 13) (.c (.i .u8 90)), (some (12, true)), []⟩, ⟨(some 15), 17, .pick (.t 12) (.t 14) (.c (.b false)), (some (9, false)), []⟩, ⟨(some 16), 18, .pick (.t 9) (.c (.b true)) (.t 15), none, []⟩, ⟨(some 2), 4, .mv (.t 16), none, []⟩])
 .ret))
theorem k118 : compCode Try.prog Try.f118.ntmps Try.f118.body.get! = some c118 := by kernel_rfl
theorem r118 : resTmps Try.prog Try.f118.results.toList = some [.tmp 2] := by kernel_rfl
def c138 : TCode := (.seq (.ops [⟨(some 0), 2, .mv (.c (.sl true 1 [])), none, []⟩])
 (.seq (.ops [⟨(some 1), 3, .bslice 1 32 [(.s ⟨#[]⟩)] [(0, (.c (.s ⟨#[115, 121, 115, 116, 101, 109]⟩))), (1, (.c (.s ⟨#[102, 110]⟩))), (2, (.c (.s ⟨#[108, 101, 116]⟩))), (3, (.c (.s ⟨#[105, 102]⟩))), (4, (.c (.s ⟨#[101, 108, 115, 101]⟩))), (5, (.c (.s ⟨#[108, 111, 111, 112]⟩))), (6, (.c (.s ⟨#[101, 97, 99, 104]⟩))), (7, (.c (.s ⟨#[119, 105, 116, 104]⟩))), (8, (.c (.s ⟨#[119, 105, 116, 104, 111, 117, 116]⟩))), (9, (.c (.s ⟨#[101, 109, 105, 116]⟩))), (10, (.c (.s ⟨#[104, 101, 97, 114]⟩))), (11, (.c (.s ⟨#[97, 115]⟩))), (12, (.c (.s ⟨#[115, 112, 97, 119, 110]⟩))), (13, (.c (.s ⟨#[107, 105, 108, 108]⟩))), (14, (.c (.s ⟨#[112, 117, 116]⟩))), (15, (.c (.s ⟨#[100, 114, 111, 112]⟩))), (16, (.c (.s ⟨#[100, 111]⟩))), (17, (.c (.s ⟨#[114, 101, 116, 117, 114, 110]⟩))), (18, (.c (.s ⟨#[112, 105, 99, 107]⟩))), (19, (.c (.s ⟨#[111, 102]⟩))), (20, (.c (.s ⟨#[121, 101, 115]⟩))), (21, (.c (.s ⟨#[110, 111]⟩))), (22, (.c (.s ⟨#[97, 110, 100]⟩))), (23, (.c (.s ⟨#[111, 114]⟩))), (24, (.c (.s ⟨#[110, 111, 116]⟩))), (25, (.c (.s ⟨#[105, 110, 116]⟩))), (26, (.c (.s ⟨#[114, 101, 97, 108]⟩))), (27, (.c (.s ⟨#[112, 97, 105, 114]⟩))), (28, (.c (.s ⟨#[98, 111, 111, 108]⟩))), (29, (.c (.s ⟨#[114, 101]⟩))), (30, (.c (.s ⟨#[105, 109]⟩))), (31, (.c (.s ⟨#[115, 105, 122, 101]⟩)))], none, []⟩, ⟨(some 0), 2, .mv (.t 1), none, []⟩])
 .ret))
theorem k138 : compCode Try.prog Try.f138.ntmps Try.f138.body.get! = some c138 := by kernel_rfl
theorem r138 : resTmps Try.prog Try.f138.results.toList = some [.tmp 0] := by kernel_rfl
def c115 : TCode := (.seq (.ops [⟨(some 2), 4, .mv (.c (.b false)), none, []⟩])
 (.seq (.ops [⟨(some 5), 7, .call 138 [], none, []⟩, ⟨(some 3), 5, .mv (.t 5), none, []⟩])
 (.seq (.seq (.ops [⟨(some 4), 6, .mv (.c (.i .i64 0)), none, []⟩])
 (.block 0 (.loop (.seq (.seq (.ops [⟨(some 6), 8, .mv (.t 4), none, []⟩, ⟨(some 7), 9, .mv (.t 3), none, []⟩, ⟨(some 8), 10, .len false (.t 7), none, []⟩, ⟨(some 9), 11, .bin .lss (.t 6) (.t 8), none, []⟩])
 (.cond (.t 9)
 .skip
 (.exit 0)))
 (.seq (.block 1 (.seq (.ops [⟨(some 12), 14, .mv (.t 3), none, []⟩, ⟨(some 13), 15, .mv (.t 4), none, []⟩, ⟨(some 14), 16, .iaddr 1 (.t 12) (.t 13), none, []⟩, ⟨(some 15), 17, .load false 1 (.t 14), none, []⟩, ⟨(some 16), 18, .mv (.t 0), none, []⟩, ⟨(some 17), 19, .bin .eql (.t 15) (.t 16), none, []⟩])
 (.cond (.t 17)
 (.seq (.ops [⟨(some 2), 4, .mv (.c (.b true)), none, []⟩])
 .ret)
 .skip)))
 (.ops [⟨(some 10), 12, .mv (.t 4), none, []⟩, ⟨(some 11), 13, .bin .add (.t 10) (.c (.i .i64 1)), none, []⟩, ⟨(some 4), 6, .mv (.t 11), none, []⟩]))))))
 (.seq (.ops [⟨(some 2), 4, .mv (.c (.b false)), none, []⟩])
 .ret))))
theorem k115 : compCode Try.prog Try.f115.ntmps Try.f115.body.get! = some c115 := by kernel_rfl
theorem r115 : resTmps Try.prog Try.f115.results.toList = some [.tmp 2] := by kernel_rfl
def c119 : TCode := (.seq (.ops [⟨(some 2), 4, .mv (.c (.b false)), none, []⟩])
 (.seq (.seq (.ops [⟨(some 3), 5, .mv (.t 0), none, []⟩])
 (.block 0 (.seq (.seq (.ops [⟨(some 5), 7, .bin .eql (.t 3) (.c (.s ⟨#[115, 121, 115, 116, 101, 109]⟩)), none, []⟩, ⟨(some 4), 6, .mv (.t 5), none, []⟩])
 (.cond (.t 4)
 .skip
 (.seq (.ops [⟨(some 6), 8, .bin .eql (.t 3) (.c (.s ⟨#[102, 110]⟩)), none, []⟩, ⟨(some 4), 6, .mv (.t 6), none, []⟩])
 (.cond (.t 4)
 .skip
 (.seq (.ops [⟨(some 7), 9, .bin .eql (.t 3) (.c (.s ⟨#[108, 101, 116]⟩)), none, []⟩, ⟨(some 4), 6, .mv (.t 7), none, []⟩])
 (.cond (.t 4)
 .skip
 (.seq (.ops [⟨(some 8), 10, .bin .eql (.t 3) (.c (.s ⟨#[105, 102]⟩)), none, []⟩, ⟨(some 4), 6, .mv (.t 8), none, []⟩])
 (.cond (.t 4)
 .skip
 (.seq (.ops [⟨(some 9), 11, .bin .eql (.t 3) (.c (.s ⟨#[101, 108, 115, 101]⟩)), none, []⟩, ⟨(some 4), 6, .mv (.t 9), none, []⟩])
 (.cond (.t 4)
 .skip
 (.seq (.ops [⟨(some 10), 12, .bin .eql (.t 3) (.c (.s ⟨#[108, 111, 111, 112]⟩)), none, []⟩, ⟨(some 4), 6, .mv (.t 10), none, []⟩])
 (.cond (.t 4)
 .skip
 (.seq (.ops [⟨(some 11), 13, .bin .eql (.t 3) (.c (.s ⟨#[101, 97, 99, 104]⟩)), none, []⟩, ⟨(some 4), 6, .mv (.t 11), none, []⟩])
 (.cond (.t 4)
 .skip
 (.seq (.ops [⟨(some 12), 14, .bin .eql (.t 3) (.c (.s ⟨#[119, 105, 116, 104]⟩)), none, []⟩, ⟨(some 4), 6, .mv (.t 12), none, []⟩])
 (.cond (.t 4)
 .skip
 (.seq (.ops [⟨(some 13), 15, .bin .eql (.t 3) (.c (.s ⟨#[119, 105, 116, 104, 111, 117, 116]⟩)), none, []⟩, ⟨(some 4), 6, .mv (.t 13), none, []⟩])
 (.cond (.t 4)
 .skip
 (.seq (.ops [⟨(some 14), 16, .bin .eql (.t 3) (.c (.s ⟨#[101, 109, 105, 116]⟩)), none, []⟩, ⟨(some 4), 6, .mv (.t 14), none, []⟩])
 (.cond (.t 4)
 .skip
 (.seq (.ops [⟨(some 15), 17, .bin .eql (.t 3) (.c (.s ⟨#[104, 101, 97, 114]⟩)), none, []⟩, ⟨(some 4), 6, .mv (.t 15), none, []⟩])
 (.cond (.t 4)
 .skip
 (.seq (.ops [⟨(some 16), 18, .bin .eql (.t 3) (.c (.s ⟨#[97, 115]⟩)), none, []⟩, ⟨(some 4), 6, .mv (.t 16), none, []⟩])
 (.cond (.t 4)
 .skip
 (.seq (.ops [⟨(some 17), 19, .bin .eql (.t 3) (.c (.s ⟨#[115, 112, 97, 119, 110]⟩)), none, []⟩, ⟨(some 4), 6, .mv (.t 17), none, []⟩])
 (.cond (.t 4)
 .skip
 (.seq (.ops [⟨(some 18), 20, .bin .eql (.t 3) (.c (.s ⟨#[107, 105, 108, 108]⟩)), none, []⟩, ⟨(some 4), 6, .mv (.t 18), none, []⟩])
 (.cond (.t 4)
 .skip
 (.seq (.ops [⟨(some 19), 21, .bin .eql (.t 3) (.c (.s ⟨#[112, 117, 116]⟩)), none, []⟩, ⟨(some 4), 6, .mv (.t 19), none, []⟩])
 (.cond (.t 4)
 .skip
 (.seq (.ops [⟨(some 20), 22, .bin .eql (.t 3) (.c (.s ⟨#[100, 114, 111, 112]⟩)), none, []⟩, ⟨(some 4), 6, .mv (.t 20), none, []⟩])
 (.cond (.t 4)
 .skip
 (.seq (.ops [⟨(some 21), 23, .bin .eql (.t 3) (.c (.s ⟨#[100, 111]⟩)), none, []⟩, ⟨(some 4), 6, .mv (.t 21), none, []⟩])
 (.cond (.t 4)
 .skip
 (.seq (.ops [⟨(some 22), 24, .bin .eql (.t 3) (.c (.s ⟨#[114, 101, 116, 117, 114, 110]⟩)), none, []⟩, ⟨(some 4), 6, .mv (.t 22), none, []⟩])
 (.cond (.t 4)
 .skip
 (.seq (.ops [⟨(some 23), 25, .bin .eql (.t 3) (.c (.s ⟨#[112, 105, 99, 107]⟩)), none, []⟩, ⟨(some 4), 6, .mv (.t 23), none, []⟩])
 (.cond (.t 4)
 .skip
 (.seq (.ops [⟨(some 24), 26, .bin .eql (.t 3) (.c (.s ⟨#[111, 102]⟩)), none, []⟩, ⟨(some 4), 6, .mv (.t 24), none, []⟩])
 (.cond (.t 4)
 .skip
 (.seq (.ops [⟨(some 25), 27, .bin .eql (.t 3) (.c (.s ⟨#[121, 101, 115]⟩)), none, []⟩, ⟨(some 4), 6, .mv (.t 25), none, []⟩])
 (.cond (.t 4)
 .skip
 (.seq (.ops [⟨(some 26), 28, .bin .eql (.t 3) (.c (.s ⟨#[110, 111]⟩)), none, []⟩, ⟨(some 4), 6, .mv (.t 26), none, []⟩])
 (.cond (.t 4)
 .skip
 (.seq (.ops [⟨(some 27), 29, .bin .eql (.t 3) (.c (.s ⟨#[97, 110, 100]⟩)), none, []⟩, ⟨(some 4), 6, .mv (.t 27), none, []⟩])
 (.cond (.t 4)
 .skip
 (.seq (.ops [⟨(some 28), 30, .bin .eql (.t 3) (.c (.s ⟨#[111, 114]⟩)), none, []⟩, ⟨(some 4), 6, .mv (.t 28), none, []⟩])
 (.cond (.t 4)
 .skip
 (.seq (.ops [⟨(some 29), 31, .bin .eql (.t 3) (.c (.s ⟨#[110, 111, 116]⟩)), none, []⟩, ⟨(some 4), 6, .mv (.t 29), none, []⟩])
 (.cond (.t 4)
 .skip
 (.seq (.ops [⟨(some 30), 32, .bin .eql (.t 3) (.c (.s ⟨#[105, 110, 116]⟩)), none, []⟩, ⟨(some 4), 6, .mv (.t 30), none, []⟩])
 (.cond (.t 4)
 .skip
 (.seq (.ops [⟨(some 31), 33, .bin .eql (.t 3) (.c (.s ⟨#[114, 101, 97, 108]⟩)), none, []⟩, ⟨(some 4), 6, .mv (.t 31), none, []⟩])
 (.cond (.t 4)
 .skip
 (.seq (.ops [⟨(some 32), 34, .bin .eql (.t 3) (.c (.s ⟨#[112, 97, 105, 114]⟩)), none, []⟩, ⟨(some 4), 6, .mv (.t 32), none, []⟩])
 (.cond (.t 4)
 .skip
 (.seq (.ops [⟨(some 33), 35, .bin .eql (.t 3) (.c (.s ⟨#[98, 111, 111, 108]⟩)), none, []⟩, ⟨(some 4), 6, .mv (.t 33), none, []⟩])
 (.cond (.t 4)
 .skip
 (.seq (.ops [⟨(some 34), 36, .bin .eql (.t 3) (.c (.s ⟨#[114, 101]⟩)), none, []⟩, ⟨(some 4), 6, .mv (.t 34), none, []⟩])
 (.cond (.t 4)
 .skip
 (.seq (.ops [⟨(some 35), 37, .bin .eql (.t 3) (.c (.s ⟨#[105, 109]⟩)), none, []⟩, ⟨(some 4), 6, .mv (.t 35), none, []⟩])
 (.cond (.t 4)
 .skip
 (.ops [⟨(some 36), 38, .bin .eql (.t 3) (.c (.s ⟨#[115, 105, 122, 101]⟩)), none, []⟩, ⟨(some 4), 6, .mv (.t 36), none, []⟩])))))))))))))))))))))))))))))))))))))))))))))))))))))))))))))))
 (.cond (.t 4)
 (.seq (.ops [⟨(some 2), 4, .mv (.c (.b true)), none, []⟩])
 .ret)
 .skip))))
 (.seq (.ops [⟨(some 2), 4, .mv (.c (.b false)), none, []⟩])
 .ret)))
theorem k119 : compCode Try.prog Try.f119.ntmps Try.f119.body.get! = some c119 := by kernel_rfl
theorem r119 : resTmps Try.prog Try.f119.results.toList = some [.tmp 2] := by kernel_rfl
def c77 : TCode := (.seq (.ops [⟨(some 2), 4, .mv (.c (.b false)), none, []⟩])
 (.seq (.seq (.ops [⟨(some 4), 6, .mv (.t 0), none, []⟩, ⟨(some 5), 7, .len true (.t 4), none, []⟩, ⟨(some 6), 8, .call 38 [((.t 5), 0), ((.c (.i .i64 1)), 0), ((.c (.i .i64 12)), 0)], none, []⟩, ⟨(some 7), 9, .un .not (.t 6), none, []⟩])
 (.cond (.t 7)
 (.seq (.ops [⟨(some 2), 4, .mv (.c (.b false)), none, []⟩])
 .ret)
 .skip))
 (.seq (.seq (.ops [⟨(some 3), 5, .mv (.c (.i .i64 0)), none, []⟩])
 (.block 0 (.loop (.seq (.seq (.ops [⟨(some 8), 10, .mv (.t 3), none, []⟩, ⟨(some 9), 11, .mv (.t 0), none, []⟩, ⟨(some 10), 12, .len true (.t 9), none, []⟩, ⟨(some 11), 13, .bin .lss (.t 8) (.t 10), none, []⟩])
 (.cond (.t 11)
 .skip
 (.exit 0)))
 (.seq (.block 1 (.seq (.ops [⟨(some 14), 16, .mv (.t 0), none, []⟩, ⟨(some 15), 17, .mv (.t 3), none, []⟩, ⟨(some 16), 18, .ix (.t 14) (.t 15), none, []⟩, ⟨(some 17), 19, .call 114 [((.t 16), 0)], none, []⟩, ⟨(some 18), 20, .un .not (.t 17), none, []⟩])
 (.cond (.t 18)
 (.seq (.ops [⟨(some 2), 4, .mv (.c (.b false)), none, []⟩])
 .ret)
 .skip)))
 (.ops [⟨(some 12), 14, .mv (.t 3), none, []⟩, ⟨(some 13), 15, .bin .add (.t 12) (.c (.i .i64 1)), none, []⟩, ⟨(some 3), 5, .mv (.t 13), none, []⟩]))))))
 (.seq (.ops [⟨(some 19), 21, .mv (.t 0), none, []⟩, ⟨(some 20), 22, .call 115 [((.t 19), 0)], none, []⟩, ⟨(some 21), 23, .un .not (.t 20), none, []⟩, ⟨(some 2), 4, .mv (.t 21), none, []⟩])
 .ret))))
theorem k77 : compCode Try.prog Try.f77.ntmps Try.f77.body.get! = some c77 := by kernel_rfl
theorem r77 : resTmps Try.prog Try.f77.results.toList = some [.tmp 2] := by kernel_rfl
def c84 : TCode := (.seq (.ops [⟨(some 2), 4, .mv (.c (.b false)), none, []⟩])
 (.seq (.seq (.ops [⟨(some 3), 5, .mv (.c (.i .i64 0)), none, []⟩])
 (.block 0 (.loop (.seq (.seq (.ops [⟨(some 4), 6, .mv (.t 3), none, []⟩, ⟨(some 5), 7, .mv (.t 0), none, []⟩, ⟨(some 6), 8, .len true (.t 5), none, []⟩, ⟨(some 7), 9, .bin .lss (.t 4) (.t 6), none, []⟩])
 (.cond (.t 7)
 .skip
 (.exit 0)))
 (.seq (.block 1 (.seq (.ops [⟨(some 10), 12, .mv (.t 0), none, []⟩, ⟨(some 11), 13, .mv (.t 3), none, []⟩, ⟨(some 12), 14, .ix (.t 10) (.t 11), none, []⟩, ⟨(some 13), 15, .call 118 [((.t 12), 0)], none, []⟩, ⟨(some 14), 16, .un .not (.t 13), none, []⟩])
 (.cond (.t 14)
 (.seq (.ops [⟨(some 2), 4, .mv (.c (.b false)), none, []⟩])
 .ret)
 .skip)))
 (.ops [⟨(some 8), 10, .mv (.t 3), none, []⟩, ⟨(some 9), 11, .bin .add (.t 8) (.c (.i .i64 1)), none, []⟩, ⟨(some 3), 5, .mv (.t 9), none, []⟩]))))))
 (.seq (.ops [⟨(some 15), 17, .mv (.t 0), none, []⟩, ⟨(some 16), 18, .len true (.t 15), none, []⟩, ⟨(some 17), 19, .call 87 [((.t 16), 0), ((.c (.i .i64 1)), 0), ((.c (.i .i64 12)), 0)], none, []⟩, ⟨(some 18), 20, .mv (.t 17), none, []⟩, ⟨(some 19), 21, .mv (.t 0), (some (18, true)), []⟩, ⟨(some 20), 22, .call 119 [((.t 19), 0)], (some (18, true)), []⟩, ⟨(some 21), 23, .un .not (.t 20), (some (18, true)), []⟩, ⟨(some 22), 24, .pick (.t 18) (.t 21) (.c (.b false)), none, []⟩, ⟨(some 2), 4, .mv (.t 22), none, []⟩])
 .ret)))
theorem k84 : compCode Try.prog Try.f84.ntmps Try.f84.body.get! = some c84 := by kernel_rfl
theorem r84 : resTmps Try.prog Try.f84.results.toList = some [.tmp 2] := by kernel_rfl
@[simp] def sT (s : ByteArray) : List TV := [.s s]
@[simp] theorem fzL_sT (s : ByteArray) : fzL (sT s) = sT s := rfl
@[simp] theorem fzLL_sT (l : List (ByteArray)) : fzLL (l.map sT) = l.map sT := fzLL_map fzL_sT l
@[simp] def dT (d : ByteArray × Int) : List TV := [.s d.1, .i .i64 d.2]
@[simp] theorem fzL_dT (d : ByteArray × Int) : fzL (dT d) = dT d := rfl
@[simp] theorem fzLL_dT (l : List (ByteArray × Int)) : fzLL (l.map dT) = l.map dT := fzLL_map fzL_dT l
@[simp] theorem noROLL_dT (l : List (ByteArray × Int)) : noROLL (l.map dT) = true := noROLL_map (fun _ => rfl) l
@[simp] theorem noref_dT (l : List (ByteArray × Int)) : (l.map dT).all (·.all noref) = true := noref_map (fun _ => rfl) l
@[simp] theorem srcT_dT (H : Hp) (z : Nat) (l : List (ByteArray × Int)) : srcT H (.sl false z (l.map dT)) = some (z, l.map dT, H, []) := by simp only [srcT, noref_dT, if_true]
instance memS (a : ByteArray) (l : List ByteArray) : Decidable (a ∈ l) := decidable_of_iff (l.any (fun x => decide (x = a)) = true) (by simp)
def lettP (n : Int) : Prop := (97 ≤ n ∧ n ≤ 122) ∨ (65 ≤ n ∧ n ≤ 90)
instance (n : Int) : Decidable (lettP n) := by unfold lettP; infer_instance
theorem w114 (n : Int) : Contract Try.prog false 114 [.ro] [.i .u8 n] [.b (decide (lettP n))] [] := by
 refine mk_contract [] Try.func114 (c := Try.f114.body.get!) (by kernel_rfl) k114 r114 (of_decide_eq_true rfl) fun _ => ?_
 unfold c114; simp
 by_cases h1 : 97 ≤ n <;> by_cases h2 : n ≤ 122 <;> by_cases h3 : 65 ≤ n <;> by_cases h4 : n ≤ 90 <;> simp [lettP, h1, h2, h3, h4]
theorem w118 (n : Int) : Contract Try.prog false 118 [.ro] [.i .u8 n] [.b (decide (lettP n))] [] := by
 refine mk_contract [] Try.func118 (c := Try.f118.body.get!) (by kernel_rfl) k118 r118 (of_decide_eq_true rfl) fun _ => ?_
 unfold c118; simp
 by_cases h1 : 97 ≤ n <;> by_cases h2 : n ≤ 122 <;> by_cases h3 : 65 ≤ n <;> by_cases h4 : n ≤ 90 <;> simp [lettP, h1, h2, h3, h4]
def words : List ByteArray := [⟨#[115, 121, 115, 116, 101, 109]⟩, ⟨#[102, 110]⟩, ⟨#[108, 101, 116]⟩, ⟨#[105, 102]⟩, ⟨#[101, 108, 115, 101]⟩, ⟨#[108, 111, 111, 112]⟩, ⟨#[101, 97, 99, 104]⟩, ⟨#[119, 105, 116, 104]⟩, ⟨#[119, 105, 116, 104, 111, 117, 116]⟩, ⟨#[101, 109, 105, 116]⟩, ⟨#[104, 101, 97, 114]⟩, ⟨#[97, 115]⟩, ⟨#[115, 112, 97, 119, 110]⟩, ⟨#[107, 105, 108, 108]⟩, ⟨#[112, 117, 116]⟩, ⟨#[100, 114, 111, 112]⟩, ⟨#[100, 111]⟩, ⟨#[114, 101, 116, 117, 114, 110]⟩, ⟨#[112, 105, 99, 107]⟩, ⟨#[111, 102]⟩, ⟨#[121, 101, 115]⟩, ⟨#[110, 111]⟩, ⟨#[97, 110, 100]⟩, ⟨#[111, 114]⟩, ⟨#[110, 111, 116]⟩, ⟨#[105, 110, 116]⟩, ⟨#[114, 101, 97, 108]⟩, ⟨#[112, 97, 105, 114]⟩, ⟨#[98, 111, 111, 108]⟩, ⟨#[114, 101]⟩, ⟨#[105, 109]⟩, ⟨#[115, 105, 122, 101]⟩]
theorem words_len : words.length = 32 := rfl
theorem w138  : Contract Try.prog false 138 [] [] [.sl true 1 (words.map sT)] [] := by
 refine mk_contract [] Try.func138 (c := Try.f138.body.get!) (by kernel_rfl) k138 r138 (of_decide_eq_true rfl) fun _ => ?_
 unfold c138; simp [words]
theorem w115 (a : ByteArray) : Contract Try.prog false 115 [.ro] [.s a] [.b (decide (a ∈ words))] [] := by
 refine mk_contract [] Try.func115 (c := Try.f115.body.get!) (by kernel_rfl) k115 r115 (of_decide_eq_true rfl) fun _ => ?_
 unfold c115; simp
 refine callW_ms [] ?_
 simp
 refine callX_of (w138 ) (by simp) ?_
 simp
 have hwl := words_len
 generalize words = W at hwl
 refine twp_for W.length (fun j s => s.t 0 = .s a ∧ s.t 3 = .rf [(7, 0)] 0 W.length ∧ s.t 4 = .i .i64 j ∧ a ∉ W.take j ∧ s.H = lk [(1, []), (7, [.sl true 1 (W.map sT)])]) [] (by simp) ?_ ?_
 ·simp
 ·rintro j s hj ⟨q0, q3, q4, hn, qH⟩
  rw [nf_of qH]
  simp [q0, q3, q4]
  refine ⟨fun hlt => ?_, fun hge => ?_⟩
  ·have hw : IntKind.i64.wrap (j + 1) = j + 1 := wrap_id (by omega) (by omega)
   obtain ⟨x, hx⟩ := get_some hlt
   simp [hx, hw, q0, q3, q4]
   refine ⟨hlt, fun h => by subst h; exact List.mem_of_getElem? hx, fun h => ⟨hlt, ?_⟩⟩
   rw [take_snoc hx]; simp; exact ⟨hn, fun h2 => h h2.symm⟩
  ·obtain rfl : j = W.length := by omega
   rw [List.take_of_length_le (Nat.le_refl _)] at hn
   exact hn
set_option maxRecDepth 100000 in
theorem w119 (a : ByteArray) : Contract Try.prog false 119 [.ro] [.s a] [.b (decide (a ∈ words))] [] := by
 refine mk_contract [] Try.func119 (c := Try.f119.body.get!) (by kernel_rfl) k119 r119 (of_decide_eq_true rfl) fun _ => ?_
 unfold c119; simp
 repeat (refine ⟨fun h => by simp [words, h], fun _ => ?_⟩)
 simp [words, *]
def allLet (a : ByteArray) (j : Nat) : Prop := ∀ i < j, ∀ b : UInt8, a[i]? = some b → lettP b.toNat
def nameP (a : ByteArray) : Prop := (1 ≤ a.size ∧ a.size ≤ 12) ∧ allLet a a.size ∧ a ∉ words
noncomputable instance (a : ByteArray) : Decidable (nameP a) := Classical.propDecidable _
theorem get_byte {a : ByteArray} {j : Nat} (h : j < a.size) : ∃ b : UInt8, a[j]? = some b := ⟨a[j], by simp [h]⟩
theorem allLet_succ {a : ByteArray} {j : Nat} {b : UInt8} (h : a[j]? = some b) : allLet a (j + 1) ↔ allLet a j ∧ lettP b.toNat := by
 constructor
 ·intro h2; exact ⟨fun i hi => h2 i (by omega), h2 j (by omega) b h⟩
 ·rintro ⟨h1, h2⟩ i hi c hc
  rcases Nat.lt_or_ge i j with h3 | h3
  ·exact h1 i h3 c hc
  ·obtain rfl : i = j := by omega
   rw [h] at hc; cases hc; exact h2
theorem w77 (a : ByteArray) : Contract Try.prog false 77 [.ro] [.s a] [.b (decide (nameP a))] [] := by
 refine mk_contract [] Try.func77 (c := Try.f77.body.get!) (by kernel_rfl) k77 r77 (of_decide_eq_true rfl) fun _ => ?_
 unfold c77; simp
 by_cases hr : 1 ≤ (a.size : Int) ∧ (a.size : Int) ≤ 12
 ·refine callW_ms [.ro, .ro, .ro] ?_
  simp
  refine callX_of ((w38 _ _ _).t hr) (by simp) ?_
  simp
  refine twp_for a.size (fun j s => s.t 0 = .s a ∧ s.t 3 = .i .i64 j ∧ allLet a j ∧ s.H = lk [(1, [])]) [] (by simp) ?_ ?_
  ·simp [allLet]
  ·rintro j s hj ⟨q0, q3, hn, qH⟩
   rw [nf_of qH]
   simp [q0, q3]
   refine ⟨fun hlt => ?_, fun hge => ?_⟩
   ·have hw : IntKind.i64.wrap (j + 1) = j + 1 := wrap_id (by omega) (by omega)
    obtain ⟨b, hb⟩ := get_byte hlt
    simp [hb, hw, q0, q3]
    by_cases hl : lettP b.toNat
    ·refine callW_ms [.ro] ?_
     simp
     refine callX_of ((w114 b.toNat).t hl) (by simp) ?_
     simp [hw, q0, q3]
     exact ⟨hlt, (allLet_succ hb).2 ⟨hn, hl⟩⟩
    ·refine callW_ms [.ro] ?_
     simp
     refine callX_of ((w114 b.toNat).f hl) (by simp) ?_
     simp [hw, q0, q3]
     intro h; exact hl (h.2.1 j hlt b hb)
   ·obtain rfl : j = a.size := by omega
    have h1 : 1 ≤ a.size ∧ a.size ≤ 12 := by omega
    refine callW_ms [.ro] ?_
    simp
    refine callX_of (w115 a) (by simp) ?_
    simp [nameP, hn, h1]
 ·refine callW_ms [.ro, .ro, .ro] ?_
  simp
  refine callX_of ((w38 _ _ _).f hr) (by simp) ?_
  simp
  intro h; exact hr (by have := h.1; omega)
theorem w84 (a : ByteArray) (ha : a.size ≤ 2^40) : Contract Try.prog false 84 [.ro] [.s a] [.b (decide (nameP a))] [] := by
 refine mk_contract [] Try.func84 (c := Try.f84.body.get!) (by kernel_rfl) k84 r84 (of_decide_eq_true rfl) fun _ => ?_
 unfold c84; simp
 refine twp_for a.size (fun j s => s.t 0 = .s a ∧ s.t 3 = .i .i64 j ∧ allLet a j ∧ s.H = lk [(1, [])]) [] (by simp) ?_ ?_
 ·simp [allLet]
 ·rintro j s hj ⟨q0, q3, hn, qH⟩
  rw [nf_of qH]
  simp [q0, q3]
  refine ⟨fun hlt => ?_, fun hge => ?_⟩
  ·have hw : IntKind.i64.wrap (j + 1) = j + 1 := wrap_id (by omega) (by omega)
   obtain ⟨b, hb⟩ := get_byte hlt
   simp [hb, hw, q0, q3]
   by_cases hl : lettP b.toNat
   ·refine callW_ms [.ro] ?_
    simp
    refine callX_of ((w118 b.toNat).t hl) (by simp) ?_
    simp [hw, q0, q3]
    exact ⟨hlt, (allLet_succ hb).2 ⟨hn, hl⟩⟩
   ·refine callW_ms [.ro] ?_
    simp
    refine callX_of ((w118 b.toNat).f hl) (by simp) ?_
    simp [hw, q0, q3]
    intro h; exact hl (h.2.1 j hlt b hb)
  ·obtain rfl : j = a.size := by omega
   by_cases hr : 1 ≤ (a.size : Int) ∧ (a.size : Int) ≤ 12
   ·have h1 : 1 ≤ a.size ∧ a.size ≤ 12 := by omega
    refine callW_ms [.ro, .ro, .ro] ?_
    simp
    refine callX_of ((w87 _ _ _).t hr) (by simp) ?_
    simp [q0, q3]
    refine callW_ms [.ro] ?_
    simp
    refine callX_of (w119 a) (by simp) ?_
    simp [nameP, hn, h1]
   ·have h1 : ¬ (1 ≤ a.size ∧ a.size ≤ 12) := by omega
    refine callW_ms [.ro, .ro, .ro] ?_
    simp
    refine callX_of ((w87 _ _ _).f hr) (by simp) ?_
    simp [q0, q3, nameP, h1]
def regR (c r e : List (ByteArray × Int)) : TV := .ag [.sl false 2 (c.map dT), .sl false 2 (r.map dT), .sl false 2 (e.map dT)]
def regO (c r e : List (ByteArray × Int)) : TV := .ag [.sl true 2 (c.map dT), .sl true 2 (r.map dT), .sl true 2 (e.map dT)]
end Go.Proofs.YtehmdblkkpdmoaaT


namespace Go.Proofs.YtehmdblkkpdmoaaT
set_option linter.unusedVariables false
set_option linter.unusedSimpArgs false
open Go
theorem fzLL_mapR {α : Type} {f g : α → List TV} (h : ∀ x, fzL (f x) = g x) (l : List α) : fzLL (l.map f) = l.map g := by
 induction l with
 | nil => rfl
 | cons a l ih => simp [fzLL, h, ih]
@[simp] def cvT (v : List ValP) : List TV := [.sl false 4 (v.map vT)]
@[simp] def cvO (v : List ValP) : List TV := [.sl true 4 (v.map vT)]
@[simp] theorem fzL_cvT (v : List ValP) : fzL (cvT v) = cvT v := by simp
@[simp] theorem fzL_cvO (v : List ValP) : fzL (cvO v) = cvT v := by simp
@[simp] theorem fzLL_cvT (l : List (List ValP)) : fzLL (l.map cvT) = l.map cvT := fzLL_map fzL_cvT l
@[simp] theorem fzLL_cvO (l : List (List ValP)) : fzLL (l.map cvO) = l.map cvT := fzLL_mapR fzL_cvO l
@[simp] theorem noROLL_cvO (l : List (List ValP)) : noROLL (l.map cvO) = true := noROLL_map (fun _ => by simp [noROL, noRO]) l
abbrev TableP := List Int × List (Int × Int) × List (List ValP)
@[simp] def tbT (t : TableP) : List TV := [.sl false 1 (t.1.map iT), .sl false 2 (t.2.1.map eT), .sl false 1 (t.2.2.map cvT)]
@[simp] def tbO (t : TableP) : List TV := [.sl true 1 (t.1.map iT), .sl true 2 (t.2.1.map eT), .sl true 1 (t.2.2.map cvO)]
@[simp] theorem fzL_tbT (t : TableP) : fzL (tbT t) = tbT t := by simp
@[simp] theorem fzL_tbO (t : TableP) : fzL (tbO t) = tbT t := by simp
@[simp] theorem fzLL_tbT (l : List TableP) : fzLL (l.map tbT) = l.map tbT := fzLL_map fzL_tbT l
@[simp] theorem fzLL_tbO (l : List TableP) : fzLL (l.map tbO) = l.map tbT := fzLL_mapR fzL_tbO l
@[simp] theorem noROLL_tbO (l : List TableP) : noROLL (l.map tbO) = true := noROLL_map (fun _ => by simp [noROL, noRO]) l
abbrev tableR (t : TableP) : TV := .ag (tbT t)
abbrev worldR (g f : List Int) (ts : List TableP) (rs : List ValP) : TV := .ag [.sl false 1 (g.map iT), .sl false 1 (f.map iT), .sl false 3 (ts.map tbT), .sl false 4 (rs.map vT)]
abbrev worldO (g f : List Int) (ts : List TableP) (rs : List ValP) : TV := .ag [.sl true 1 (g.map iT), .sl true 1 (f.map iT), .sl true 3 (ts.map tbO), .sl true 4 (rs.map vT)]
def sumN {α : Type} (c : α → Nat) : List α → Nat
 | [] => 0
 | x :: l => c x + sumN c l
theorem sumN_take {α : Type} (c : α → Nat) (l : List α) (j : Nat) : sumN c (l.take j) ≤ sumN c l := by
 induction l generalizing j with
 | nil => simp [sumN]
 | cons y l ih => cases j with
  | zero => simp [sumN]
  | succ j => have := ih j; simp only [List.take_succ_cons, sumN]; omega
structure SzC {α : Type} (f : α → Int → Int) (c : α → Nat) : Prop where
 le : ∀ x m, 0 ≤ m → f x m ≤ m
 neg : ∀ x m, f x m < 0 → f x m = -1
 eq : ∀ x m, 0 ≤ m → 0 ≤ f x m → f x m = m - c x
abbrev WorldP := List Int × List Int × List TableP × List ValP
def okT (t : TableP) : Prop := t.1.length ≤ 2^36 ∧ t.2.1.length ≤ 2^36 ∧ t.2.2.length ≤ 2^36 ∧ ∀ v ∈ t.2.2, v.length ≤ 2^36
def okW (w : WorldP) : Prop := w.1.length ≤ 2^36 ∧ w.2.1.length ≤ 2^36 ∧ (w.2.2.1.length ≤ 2^36 ∧ ∀ t ∈ w.2.2.1, okT t) ∧ w.2.2.2.length ≤ 2^36
end Go.Proofs.YtehmdblkkpdmoaaT


namespace Go.Proofs.YtehmdblkkpdmoaaT
set_option linter.unusedVariables false
set_option linter.unusedSimpArgs false
open Go
section
variable {α β : Type} {f : Int → α → β} {n : α → Nat}
end
end Go.Proofs.YtehmdblkkpdmoaaT


namespace Go.Proofs.YtehmdblkkpdmoaaT
set_option linter.unusedVariables false
set_option linter.unusedSimpArgs false
open Go
def c33 : TCode := (.seq (.ops [⟨(some 1), 3, .box 3 (.t 0), none, []⟩, ⟨(some 2), 4, .mv (.c (.b false)), none, []⟩])
 (.seq (.seq (.ops [⟨(some 6), 8, .faddr 0 1 (.t 1), none, []⟩, ⟨(some 7), 9, .load false 1 (.t 6), none, []⟩, ⟨(some 8), 10, .len false (.t 7), none, []⟩, ⟨(some 9), 11, .bin .gtr (.t 8) (.c (.i .i64 12)), none, []⟩, ⟨(some 10), 12, .mv (.t 9), none, []⟩, ⟨(some 11), 13, .faddr 1 1 (.t 1), (some (10, false)), []⟩, ⟨(some 12), 14, .load false 1 (.t 11), (some (10, false)), []⟩, ⟨(some 13), 15, .len false (.t 12), (some (10, false)), []⟩, ⟨(some 14), 16, .bin .gtr (.t 13) (.c (.i .i64 12)), (some (10, false)), []⟩, ⟨(some 15), 17, .pick (.t 10) (.c (.b true)) (.t 14), none, []⟩, ⟨(some 16), 18, .mv (.t 15), none, []⟩, ⟨(some 17), 19, .faddr 2 1 (.t 1), (some (16, false)), []⟩, ⟨(some 18), 20, .load false 1 (.t 17), (some (16, false)), []⟩, ⟨(some 19), 21, .len false (.t 18), (some (16, false)), []⟩, ⟨(some 20), 22, .bin .gtr (.t 19) (.c (.i .i64 12)), (some (16, false)), []⟩, ⟨(some 21), 23, .pick (.t 16) (.c (.b true)) (.t 20), none, []⟩])
 (.cond (.t 21)
 (.seq (.ops [⟨(some 2), 4, .mv (.c (.b false)), none, []⟩])
 .ret)
 .skip))
 (.seq (.draw [⟨(some 22), 24, .bslice 2 0 [(.s ⟨#[]⟩), (.i .i64 0)] [], none, []⟩, ⟨(some 23), 25, .faddr 0 1 (.t 1), none, [0]⟩, ⟨(some 24), 26, .load false 1 (.t 23), none, [0]⟩, ⟨(some 25), 27, .app 2 24 (.t 22) (.t 24), none, []⟩, ⟨(some 26), 28, .faddr 1 1 (.t 1), none, [0, 3]⟩, ⟨(some 27), 29, .load false 1 (.t 26), none, [0, 3]⟩, ⟨(some 28), 30, .app 2 24 (.t 25) (.t 27), none, []⟩, ⟨(some 29), 31, .faddr 2 1 (.t 1), none, [0, 3, 6]⟩, ⟨(some 30), 32, .load false 1 (.t 29), none, [0, 3, 6]⟩, ⟨(some 31), 33, .app 2 24 (.t 28) (.t 30), none, []⟩, ⟨(some 3), 5, .mv (.t 31), none, []⟩])
 (.seq (.seq (.ops [⟨(some 4), 6, .mv (.c (.i .i64 0)), none, []⟩])
 (.block 0 (.loop (.seq (.seq (.ops [⟨(some 32), 34, .mv (.t 4), none, []⟩, ⟨(some 33), 35, .mv (.t 3), none, []⟩, ⟨(some 34), 36, .len false (.t 33), none, []⟩, ⟨(some 35), 37, .bin .lss (.t 32) (.t 34), none, []⟩])
 (.cond (.t 35)
 .skip
 (.exit 0)))
 (.seq (.block 1 (.seq (.seq (.ops [⟨(some 38), 40, .mv (.t 3), none, []⟩, ⟨(some 39), 41, .mv (.t 4), none, []⟩, ⟨(some 40), 42, .iaddr 2 (.t 38) (.t 39), none, []⟩, ⟨(some 41), 43, .faddr 0 1 (.t 40), none, []⟩, ⟨(some 42), 44, .load false 1 (.t 41), none, []⟩, ⟨(some 43), 45, .call 77 [((.t 42), 0)], none, []⟩, ⟨(some 44), 46, .un .not (.t 43), none, []⟩, ⟨(some 45), 47, .mv (.t 44), none, []⟩, ⟨(some 46), 48, .mv (.t 3), (some (45, false)), []⟩, ⟨(some 47), 49, .mv (.t 4), (some (45, false)), []⟩, ⟨(some 48), 50, .iaddr 2 (.t 46) (.t 47), (some (45, false)), []⟩, ⟨(some 49), 51, .faddr 1 1 (.t 48), (some (45, false)), []⟩, ⟨(some 50), 52, .load false 1 (.t 49), (some (45, false)), []⟩, ⟨(some 51), 53, .call 38 [((.t 50), 0), ((.c (.i .i64 1)), 0), ((.c (.i .i64 4)), 0)], (some (45, false)), []⟩, ⟨(some 52), 54, .un .not (.t 51), (some (45, false)), []⟩, ⟨(some 53), 55, .pick (.t 45) (.c (.b true)) (.t 52), none, []⟩])
 (.cond (.t 53)
 (.seq (.ops [⟨(some 2), 4, .mv (.c (.b false)), none, []⟩])
 .ret)
 .skip))
 (.seq (.ops [⟨(some 5), 7, .mv (.c (.i .i64 0)), none, []⟩])
 (.block 2 (.loop (.seq (.seq (.ops [⟨(some 54), 56, .mv (.t 5), none, []⟩, ⟨(some 55), 57, .mv (.t 4), none, []⟩, ⟨(some 56), 58, .bin .lss (.t 54) (.t 55), none, []⟩])
 (.cond (.t 56)
 .skip
 (.exit 2)))
 (.seq (.block 3 (.seq (.draw [⟨(some 59), 61, .mv (.t 3), none, []⟩, ⟨(some 60), 62, .mv (.t 5), none, []⟩, ⟨(some 61), 63, .iaddr 2 (.t 59) (.t 60), none, []⟩, ⟨(some 62), 64, .faddr 0 1 (.t 61), none, []⟩, ⟨(some 63), 65, .load false 1 (.t 62), none, []⟩, ⟨(some 64), 66, .mv (.t 3), none, []⟩, ⟨(some 65), 67, .mv (.t 4), none, []⟩, ⟨(some 66), 68, .iaddr 2 (.t 64) (.t 65), none, []⟩, ⟨(some 67), 69, .faddr 0 1 (.t 66), none, []⟩, ⟨(some 68), 70, .load false 1 (.t 67), none, []⟩, ⟨(some 69), 71, .bin .eql (.t 63) (.t 68), none, []⟩])
 (.cond (.t 69)
 (.seq (.ops [⟨(some 2), 4, .mv (.c (.b false)), none, []⟩])
 .ret)
 .skip)))
 (.ops [⟨(some 57), 59, .mv (.t 5), none, []⟩, ⟨(some 58), 60, .bin .add (.t 57) (.c (.i .i64 1)), none, []⟩, ⟨(some 5), 7, .mv (.t 58), none, []⟩]))))))))
 (.ops [⟨(some 36), 38, .mv (.t 4), none, []⟩, ⟨(some 37), 39, .bin .add (.t 36) (.c (.i .i64 1)), none, []⟩, ⟨(some 4), 6, .mv (.t 37), none, []⟩]))))))
 (.seq (.ops [⟨(some 2), 4, .mv (.c (.b true)), none, []⟩])
 .ret)))))
theorem k33 : compCode Try.prog Try.f33.ntmps Try.f33.body.get! = some c33 := by kernel_rfl
theorem r33 : resTmps Try.prog Try.f33.results.toList = some [.tmp 2] := by kernel_rfl
def c43 : TCode := (.seq (.ops [⟨(some 1), 3, .box 3 (.t 0), none, []⟩, ⟨(some 2), 4, .mv (.c (.b false)), none, []⟩])
 (.seq (.ops [⟨(some 8), 10, .bslice 1 0 [(.s ⟨#[]⟩)] [], none, []⟩, ⟨(some 3), 5, .mv (.t 8), none, []⟩])
 (.seq (.seq (.ops [⟨(some 9), 11, .faddr 0 1 (.t 1), none, []⟩, ⟨(some 10), 12, .load false 1 (.t 9), none, []⟩, ⟨(some 11), 13, .faddr 1 1 (.t 1), none, []⟩, ⟨(some 12), 14, .load false 1 (.t 11), none, []⟩, ⟨(some 13), 15, .faddr 2 1 (.t 1), none, []⟩, ⟨(some 14), 16, .load false 1 (.t 13), none, []⟩, ⟨(some 15), 17, .bslice 1 3 [(.sl true 2 [])] [(0, (.t 10)), (1, (.t 12)), (2, (.t 14))], none, []⟩, ⟨(some 16), 18, .len false (.t 15), none, []⟩, ⟨(some 17), 19, .mv (.c (.i .i64 0)), none, []⟩])
 (.block 0 (.loop (.seq (.ops [⟨(some 18), 20, .bin .lss (.t 17) (.t 16), none, []⟩])
 (.seq (.cond (.t 18)
 .skip
 (.exit 0))
 (.seq (.block 1 (.seq (.ops [⟨(some 19), 21, .iaddr 1 (.t 15) (.t 17), none, []⟩, ⟨(some 20), 22, .load false 1 (.t 19), none, []⟩, ⟨(some 5), 7, .mv (.t 20), none, []⟩])
 (.seq (.seq (.ops [⟨(some 21), 23, .mv (.t 5), none, []⟩, ⟨(some 22), 24, .len false (.t 21), none, []⟩, ⟨(some 23), 25, .bin .gtr (.t 22) (.c (.i .i64 12)), none, []⟩])
 (.cond (.t 23)
 (.seq (.ops [⟨(some 2), 4, .mv (.c (.b false)), none, []⟩])
 .ret)
 .skip))
 (.seq (.ops [⟨(some 24), 26, .mv (.t 5), none, []⟩, ⟨(some 25), 27, .len false (.t 24), none, []⟩, ⟨(some 26), 28, .mv (.c (.i .i64 0)), none, []⟩])
 (.block 2 (.loop (.seq (.ops [⟨(some 27), 29, .bin .lss (.t 26) (.t 25), none, []⟩])
 (.seq (.cond (.t 27)
 .skip
 (.exit 2))
 (.seq (.block 3 (.seq (.ops [⟨(some 28), 30, .iaddr 2 (.t 24) (.t 26), none, []⟩, ⟨(some 29), 31, .load true 2 (.t 28), none, []⟩, ⟨(some 7), 9, .box 2 (.c (.ag [(.s ⟨#[]⟩), (.i .i64 0)])), none, []⟩, ⟨none, 1009003, .store 2 (.t 7) (.t 29), none, []⟩])
 (.seq (.seq (.ops [⟨(some 30), 32, .faddr 0 1 (.t 7), none, []⟩, ⟨(some 31), 33, .load false 1 (.t 30), none, []⟩, ⟨(some 32), 34, .call 84 [((.t 31), 0)], none, []⟩, ⟨(some 33), 35, .un .not (.t 32), none, []⟩, ⟨(some 34), 36, .mv (.t 33), none, []⟩, ⟨(some 35), 37, .mv (.t 3), (some (34, false)), []⟩, ⟨(some 36), 38, .faddr 0 1 (.t 7), (some (34, false)), []⟩, ⟨(some 37), 39, .load false 1 (.t 36), (some (34, false)), []⟩, ⟨(some 38), 40, .call 85 [((.t 35), 0), ((.t 37), 0)], (some (34, false)), []⟩, ⟨(some 39), 41, .pick (.t 34) (.c (.b true)) (.t 38), none, []⟩, ⟨(some 40), 42, .mv (.t 39), none, []⟩, ⟨(some 41), 43, .faddr 1 1 (.t 7), (some (40, false)), []⟩, ⟨(some 42), 44, .load false 1 (.t 41), (some (40, false)), []⟩, ⟨(some 43), 45, .call 86 [((.t 42), 0)], (some (40, false)), []⟩, ⟨(some 44), 46, .un .not (.t 43), (some (40, false)), []⟩, ⟨(some 45), 47, .pick (.t 40) (.c (.b true)) (.t 44), none, []⟩])
 (.cond (.t 45)
 (.seq (.ops [⟨(some 2), 4, .mv (.c (.b false)), none, []⟩])
 .ret)
 .skip))
 (.ops [⟨(some 46), 48, .mv (.t 3), none, []⟩, ⟨(some 47), 49, .faddr 0 1 (.t 7), none, []⟩, ⟨(some 48), 50, .load false 1 (.t 47), none, []⟩, ⟨(some 49), 51, .bslice 1 1 [(.s ⟨#[]⟩)] [(0, (.t 48))], none, []⟩, ⟨(some 50), 52, .app 1 16 (.t 46) (.t 49), none, []⟩, ⟨(some 3), 5, .mv (.t 50), none, []⟩]))))
 (.ops [⟨(some 51), 53, .bin .add (.t 26) (.c (.i .i64 1)), none, []⟩, ⟨(some 26), 28, .mv (.t 51), none, []⟩]))))))))))
 (.ops [⟨(some 52), 54, .bin .add (.t 17) (.c (.i .i64 1)), none, []⟩, ⟨(some 17), 19, .mv (.t 52), none, []⟩])))))))
 (.seq (.ops [⟨(some 2), 4, .mv (.c (.b true)), none, []⟩])
 .ret))))
theorem k43 : compCode Try.prog Try.f43.ntmps Try.f43.body.get! = some c43 := by kernel_rfl
theorem r43 : resTmps Try.prog Try.f43.results.toList = some [.tmp 2] := by kernel_rfl
def c120 : TCode := (.seq (.ops [⟨(some 4), 6, .mv (.c (.i .i64 0)), none, []⟩])
 (.seq (.seq (.ops [⟨(some 6), 8, .mv (.t 0), none, []⟩, ⟨(some 7), 9, .len false (.t 6), none, []⟩, ⟨(some 8), 10, .mv (.c (.i .i64 0)), none, []⟩])
 (.block 0 (.loop (.seq (.ops [⟨(some 9), 11, .bin .lss (.t 8) (.t 7), none, []⟩])
 (.seq (.cond (.t 9)
 .skip
 (.exit 0))
 (.seq (.block 1 (.seq (.ops [⟨(some 10), 12, .mv (.t 8), none, []⟩, ⟨(some 5), 7, .mv (.t 10), none, []⟩])
 (.seq (.ops [⟨(some 11), 13, .mv (.t 1), none, []⟩, ⟨(some 12), 14, .mv (.t 0), none, []⟩, ⟨(some 13), 15, .mv (.t 5), none, []⟩, ⟨(some 14), 16, .iaddr 1 (.t 12) (.t 13), none, []⟩, ⟨(some 15), 17, .load false 1 (.t 14), none, []⟩, ⟨(some 16), 18, .bin .eql (.t 11) (.t 15), none, []⟩])
 (.cond (.t 16)
 (.seq (.ops [⟨(some 17), 19, .mv (.t 5), none, []⟩, ⟨(some 4), 6, .mv (.t 17), none, []⟩])
 .ret)
 .skip))))
 (.ops [⟨(some 18), 20, .bin .add (.t 8) (.c (.i .i64 1)), none, []⟩, ⟨(some 8), 10, .mv (.t 18), none, []⟩])))))))
 (.seq (.ops [⟨(some 4), 6, .mv (.c (.i .i64 (-1))), none, []⟩])
 .ret)))
theorem k120 : compCode Try.prog Try.f120.ntmps Try.f120.body.get! = some c120 := by kernel_rfl
theorem r120 : resTmps Try.prog Try.f120.results.toList = some [.tmp 4] := by kernel_rfl
def c85 : TCode := (.seq (.ops [⟨(some 4), 6, .mv (.c (.b false)), none, []⟩])
 (.seq (.ops [⟨(some 5), 7, .mv (.t 0), none, []⟩, ⟨(some 6), 8, .mv (.t 1), none, []⟩, ⟨(some 7), 9, .call 120 [((.t 5), 0), ((.t 6), 0)], none, []⟩, ⟨(some 8), 10, .bin .geq (.t 7) (.c (.i .i64 0)), none, []⟩, ⟨(some 4), 6, .mv (.t 8), none, []⟩])
 .ret))
theorem k85 : compCode Try.prog Try.f85.ntmps Try.f85.body.get! = some c85 := by kernel_rfl
theorem r85 : resTmps Try.prog Try.f85.results.toList = some [.tmp 4] := by kernel_rfl
def idxP {α : Type} (p : α → Bool) (l : List α) : Int := match l.findIdx? p with
 | some i => i
 | none => -1
theorem idxP_at {α : Type} {p : α → Bool} {l : List α} {x : α} {j : Nat} (h : l[j]? = some x) (hp : p x = true) (hn : ∀ y ∈ l.take j, p y = false) : idxP p l = j := by
 have hj := (List.getElem?_eq_some_iff.1 h).1
 have : l.findIdx? p = some j := by
  rw [List.findIdx?_eq_some_iff_getElem]
  refine ⟨hj, by rw [(List.getElem?_eq_some_iff.1 h).2]; exact hp, fun k hk => ?_⟩
  have := hn (l[k]) (by rw [List.mem_take_iff_getElem]; exact ⟨k, by omega, rfl⟩)
  simp [this]
 simp [idxP, this]
theorem idxP_none {α : Type} {p : α → Bool} {l : List α} (h : ∀ y ∈ l, p y = false) : idxP p l = -1 := by
 have : l.findIdx? p = none := by rw [List.findIdx?_eq_none_iff]; exact fun x hx => by simp [h x hx]
 simp [idxP, this]
theorem idxP_ge {α : Type} {p : α → Bool} {l : List α} : 0 ≤ idxP p l ↔ ∃ y ∈ l, p y = true := by
 unfold idxP
 split
 ·rename_i i hi
  rw [List.findIdx?_eq_some_iff_getElem] at hi
  obtain ⟨h1, h2, _⟩ := hi
  exact ⟨fun _ => ⟨l[i], List.getElem_mem h1, h2⟩, fun _ => by omega⟩
 ·rename_i hi
  rw [List.findIdx?_eq_none_iff] at hi
  exact ⟨fun h => by omega, fun ⟨y, h1, h2⟩ => by have := hi y h1; simp [h2] at this⟩
theorem w120 (l : List ByteArray) (x : ByteArray) (hl : l.length ≤ 2^40) : Contract Try.prog false 120 [.ro, .ro] [.sl false 1 (l.map sT), .s x] [.i .i64 (idxP (fun y => decide (x = y)) l)] [] := by
 refine mk_contract [] Try.func120 (c := Try.f120.body.get!) (by kernel_rfl) k120 r120 (of_decide_eq_true rfl) fun _ => ?_
 unfold c120; simp
 refine twp_for l.length (fun j s => s.t 0 = .sl false 1 (l.map sT) ∧ s.t 1 = .s x ∧ s.t 7 = .i .i64 l.length ∧ s.t 8 = .i .i64 j ∧ (∀ y ∈ l.take j, decide (x = y) = false) ∧ s.H = lk [(1, [])]) [] (by simp) ?_ ?_
 ·simp
 ·rintro j s hj ⟨q0, q1, q7, q8, hn, qH⟩
  rw [nf_of qH]
  simp [q0, q1, q7, q8]
  refine ⟨fun hlt => ?_, fun hge => ?_⟩
  ·have hw : IntKind.i64.wrap (j + 1) = j + 1 := wrap_id (by omega) (by omega)
   obtain ⟨y, hy⟩ := get_some hlt
   simp [hy, hw, q0, q1, q7, q8]
   refine ⟨fun h => (idxP_at hy (by simp [h]) hn).symm, fun h => ⟨hlt, fun z hz => ?_⟩⟩
   rw [take_snoc hy, List.mem_append, List.mem_singleton] at hz
   rcases hz with hz | rfl
   ·simpa using hn z hz
   ·exact h
  ·obtain rfl : j = l.length := by omega
   rw [List.take_of_length_le (Nat.le_refl _)] at hn
   exact (idxP_none hn).symm
theorem w85 (l : List ByteArray) (x : ByteArray) (hl : l.length ≤ 2^40) : Contract Try.prog false 85 [.ro, .ro] [.sl false 1 (l.map sT), .s x] [.b (decide (x ∈ l))] [] := by
 refine mk_contract [] Try.func85 (c := Try.f85.body.get!) (by kernel_rfl) k85 r85 (of_decide_eq_true rfl) fun _ => ?_
 unfold c85; simp
 refine callW_ms [.ro, .ro] ?_
 simp
 refine callX_of (w120 l x hl) (by simp) ?_
 simp [idxP_ge]
def goodD (d : ByteArray × Int) : Prop := nameP d.1 ∧ 1 ≤ d.2 ∧ d.2 ≤ 4
def okPre (l : List (ByteArray × Int)) : Prop := (∀ d ∈ l, goodD d) ∧ (l.map (·.1)).Nodup
noncomputable instance okPreD (l : List (ByteArray × Int)) : Decidable (okPre l) := Classical.propDecidable _
def RegOkP (c r e : List (ByteArray × Int)) : Prop := (c.length ≤ 12 ∧ r.length ≤ 12 ∧ e.length ≤ 12) ∧ okPre (c ++ r ++ e)
noncomputable instance (c r e : List (ByteArray × Int)) : Decidable (RegOkP c r e) := Classical.propDecidable _
theorem okPre_snoc {l : List (ByteArray × Int)} {d : ByteArray × Int} : okPre (l ++ [d]) ↔ okPre l ∧ goodD d ∧ d.1 ∉ l.map (·.1) := by
 unfold okPre
 simp only [List.mem_append, List.mem_singleton, List.map_append, List.map_cons, List.map_nil, List.nodup_append, List.nodup_cons]
 constructor
 ·rintro ⟨h1, h2, _, h3⟩
  exact ⟨⟨fun y hy => h1 y (.inl hy), h2⟩, h1 d (.inr rfl), fun hx => h3 _ hx _ (by simp) rfl⟩
 ·rintro ⟨⟨h1, h2⟩, h3, h4⟩
  refine ⟨fun y hy => ?_, h2, by simp, fun y hy z hz => ?_⟩
  ·rcases hy with hy | rfl
   ·exact h1 y hy
   ·exact h3
  ·subst hz; rintro rfl; exact h4 hy
theorem okPre_take {l : List (ByteArray × Int)} (h : okPre l) (j : Nat) : okPre (l.take j) :=
 ⟨fun x hx => h.1 x (List.mem_of_mem_take hx), by rw [List.map_take]; exact h.2.sublist (List.take_sublist j _)⟩
theorem w33 (c r e : List (ByteArray × Int)) (hc : c.length ≤ 2^40) (hr : r.length ≤ 2^40) (he : e.length ≤ 2^40) : Contract Try.prog false 33 [.ro] [regR c r e] [.b (decide (RegOkP c r e))] [] := by
 refine mk_contract [] Try.func33 (c := Try.f33.body.get!) (by kernel_rfl) k33 r33 (of_decide_eq_true rfl) fun _ => ?_
 unfold c33; unfold regR; simp
 by_cases h1 : (12 : Int) < c.length
 ·have : ¬ RegOkP c r e := fun h => by have := h.1.1; omega
  simp [h1, this]
 by_cases h2 : (12 : Int) < r.length
 ·have : ¬ RegOkP c r e := fun h => by have := h.1.2.1; omega
  simp [h1, h2, this]
 by_cases h3 : (12 : Int) < e.length
 ·have : ¬ RegOkP c r e := fun h => by have := h.1.2.2; omega
  simp [h1, h2, h3, this]
 simp [h1, h2, h3]
 refine ⟨by omega, by omega, by omega, ?_⟩
 obtain ⟨L, hL⟩ : ∃ L, L = c ++ r ++ e := ⟨_, rfl⟩
 have hLl : L.length ≤ 36 := by subst hL; simp; omega
 have hP : RegOkP c r e ↔ okPre L := by subst hL; exact ⟨fun h => h.2, fun h => ⟨by omega, h⟩⟩
 rw [show decide (RegOkP c r e) = decide (okPre L) from decide_eq_decide.2 hP]
 refine twp_for L.length (fun j s => s.t 3 = .rf [(33, 0)] 0 L.length ∧ s.t 4 = .i .i64 j ∧ okPre (L.take j) ∧ s.H = lk [(1, []), (3, [.po true [.sl false 2 (c.map dT), .sl false 2 (r.map dT), .sl false 2 (e.map dT)]]), (33, [.sl true 2 (L.map dT)])]) [24, 27, 30] (by simp) ?_ ?_
 ·simp [hL, okPre, Nat.add_assoc]
 ·rintro j s hj ⟨q3, q4, hn, qH⟩
  rw [nf_of qH]
  simp [q3, q4]
  refine ⟨fun hlt => ?_, fun hge => ?_⟩
  ·have hw : IntKind.i64.wrap (j + 1) = j + 1 := wrap_id (by omega) (by omega)
   obtain ⟨x, hx⟩ := get_some hlt
   simp [hx, hw, q3, q4]
   have hbad : okPre L → goodD x := fun h => h.1 x (List.mem_of_getElem? hx)
   refine ⟨hlt, ?_⟩
   by_cases hn1 : nameP x.1
   ·refine callW_ms [.ro] ?_
    simp
    refine callX_of ((w77 x.1).t hn1) (by simp) ?_
    simp [hw, q3, q4, hx]
    refine ⟨hlt, ?_⟩
    by_cases hk : 1 ≤ x.2 ∧ x.2 ≤ 4
    ·refine callW_ms [.ro, .ro, .ro] ?_
     simp
     refine callX_of ((w38 x.2 1 4).t hk) (by simp) ?_
     simp [hw, q3, q4, hx]
     refine twp_for j (fun i s2 => s2.t 3 = .rf [(33, 0)] 0 L.length ∧ s2.t 4 = .i .i64 j ∧ s2.t 5 = .i .i64 i ∧ (∀ d ∈ L.take i, d.1 ≠ x.1) ∧ s2.H = lk [(1, []), (3, [.po true [.sl false 2 (c.map dT), .sl false 2 (r.map dT), .sl false 2 (e.map dT)]]), (33, [.sl true 2 (L.map dT)])]) [] (by simp) ?_ ?_
     ·simp [q3, q4]
     ·rintro i s2 hi ⟨p3, p4, p5, hd, pH⟩
      rw [nf_of pH]
      simp [p3, p4, p5]
      refine ⟨fun hlt2 => ?_, fun hge2 => ?_⟩
      ·have hwi : IntKind.i64.wrap (i + 1) = i + 1 := wrap_id (by omega) (by omega)
       obtain ⟨y, hy⟩ := get_some (l := L) (j := i) (by omega)
       simp [hy, hwi, hx, p3, p4, p5]
       refine ⟨by omega, hlt, ?_⟩
       refine ⟨fun h h2 => ?_, fun h => ⟨hlt2, fun a b hab => ?_⟩⟩
       ·have h3 := okPre_take h2 (j + 1)
        rw [take_snoc hx, okPre_snoc] at h3
        refine h3.2.2 (List.mem_map.2 ⟨y, ?_, h⟩)
        rw [List.mem_take_iff_getElem]
        exact ⟨i, by omega, (List.getElem?_eq_some_iff.1 hy).2⟩
       ·rw [take_snoc hy, List.mem_append, List.mem_singleton] at hab
        rcases hab with hab | hab
        ·exact hd _ hab
        ·rw [show a = y.1 by rw [← hab]]; exact h
      ·obtain rfl : i = j := by omega
       simp [p3, p4, p5, hw]
       refine ⟨hlt, ?_⟩
       rw [take_snoc hx, okPre_snoc]
       refine ⟨hn, ⟨hn1, hk⟩, fun h => ?_⟩
       obtain ⟨d, hd1, hd2⟩ := List.mem_map.1 h
       exact hd d hd1 hd2
    ·refine callW_ms [.ro, .ro, .ro] ?_
     simp
     refine callX_of ((w38 x.2 1 4).f hk) (by simp) ?_
     simp [hw, q3, q4, hx]
     intro h; exact hk (hbad h).2
   ·refine callW_ms [.ro] ?_
    simp
    refine callX_of ((w77 x.1).f hn1) (by simp) ?_
    simp [hw, q3, q4, hx]
    intro h; exact hn1 (hbad h).1
  ·obtain rfl : j = L.length := by omega
   rw [List.take_of_length_le (Nat.le_refl _)] at hn
   exact hn
theorem okPre_flat {c r e : List (ByteArray × Int)} : RegOkP c r e ↔ (∀ l ∈ [c, r, e], l.length ≤ 12) ∧ okPre ([c, r, e].flatten) := by
 unfold RegOkP; simp [List.append_assoc]
theorem flat_take {α : Type} {Ls : List (List α)} {j : Nat} {l : List α} (h : Ls[j]? = some l) : (Ls.take (j + 1)).flatten = (Ls.take j).flatten ++ l := by
 rw [take_snoc h]; simp
theorem okPre_left {a b : List (ByteArray × Int)} (h : okPre (a ++ b)) : okPre a := by
 have := okPre_take h a.length; simpa using this
theorem flat_left {α : Type} (Ls : List (List α)) (j : Nat) : ∃ b, Ls.flatten = (Ls.take j).flatten ++ b := ⟨(Ls.drop j).flatten, by rw [← List.flatten_append, List.take_append_drop]⟩
def namesB (Ls : List (List (ByteArray × Int))) (j : Nat) (l : List (ByteArray × Int)) (i : Nat) : List ByteArray := ((Ls.take j).flatten ++ l.take i).map (·.1)
theorem w43 (c r e : List (ByteArray × Int)) (hc : c.length ≤ 2^40) (hr : r.length ≤ 2^40) (he : e.length ≤ 2^40) (hs : ∀ l ∈ [c, r, e], ∀ d ∈ l, d.1.size ≤ 2^40) : Contract Try.prog false 43 [.ro] [regR c r e] [.b (decide (RegOkP c r e))] [] := by
 refine mk_contract [] Try.func43 (c := Try.f43.body.get!) (by kernel_rfl) k43 r43 (of_decide_eq_true rfl) fun _ => ?_
 unfold c43; unfold regR; simp
 have hP := okPre_flat (c := c) (r := r) (e := e)
 obtain ⟨Ls, hLs⟩ : ∃ Ls, Ls = [c, r, e] := ⟨_, rfl⟩
 have hl3 : Ls.length = 3 := by subst hLs; rfl
 have hlb : ∀ l ∈ Ls, l.length ≤ 2^40 := by subst hLs; simp; omega
 rw [← hLs] at hP hs
 refine twp_forR 3 (fun j s => s.t 3 = .rf [(52, 0)] 0 (namesB Ls j [] 0).length ∧ s.t 15 = .rf [(17, 0)] 0 3 ∧ s.t 16 = .i .i64 3 ∧ s.t 17 = .i .i64 j ∧ (∀ l ∈ Ls.take j, l.length ≤ 12) ∧ okPre (Ls.take j).flatten ∧ (namesB Ls j [] 0).length ≤ 12 * j ∧ s.H = lk [(1, []), (3, [.po true [.sl false 2 (c.map dT), .sl false 2 (r.map dT), .sl false 2 (e.map dT)]]), (52, [.sl true 1 ((namesB Ls j [] 0).map sT)]), (17, [.sl true 1 (Ls.map fun l => [.sl false 2 (l.map dT)])])]) [] [(10, 52)] (by simp) (by simp) ?_ ?_
 ·simp [hLs, okPre, namesB]
 ·rintro j s hj ⟨q3, q15, q16, q17, hlen, hn, hnl, qH⟩
  rw [nf_of qH]
  simp [q3, q15, q16, q17]
  refine ⟨fun hlt => ?_, fun hge => ?_⟩
  ·have hw : IntKind.i64.wrap (j + 1) = j + 1 := wrap_id (by omega) (by omega)
   obtain ⟨l, hl⟩ := get_some (l := Ls) (j := j) (by omega)
   have hlm := List.mem_of_getElem? hl
   have hl40 := hlb l hlm
   simp [hl, hw, q3, q15, q16, q17]
   by_cases h12 : (12 : Int) < l.length
   ·have : ¬ RegOkP c r e := fun h => by have := (hP.1 h).1 l hlm; omega
    simp [h12, this]
    omega
   ·simp [h12]
    refine ⟨by omega, fun _ => ?_⟩
    refine twp_for l.length (fun i s2 => s2.t 3 = .rf [(52, 0)] 0 (namesB Ls j l i).length ∧ s2.t 15 = .rf [(17, 0)] 0 3 ∧ s2.t 16 = .i .i64 3 ∧ s2.t 17 = .i .i64 j ∧ s2.t 24 = .sl false 2 (l.map dT) ∧ s2.t 25 = .i .i64 l.length ∧ s2.t 26 = .i .i64 i ∧ okPre ((Ls.take j).flatten ++ l.take i) ∧ (namesB Ls j l i).length ≤ 12 * j + i ∧ s2.H = lk [(1, []), (3, [.po true [.sl false 2 (c.map dT), .sl false 2 (r.map dT), .sl false 2 (e.map dT)]]), (52, [.sl true 1 ((namesB Ls j l i).map sT)]), (17, [.sl true 1 (Ls.map fun l => [.sl false 2 (l.map dT)])])]) [9, 51] (by simp) ?_ ?_
    ·have e : namesB Ls j l 0 = namesB Ls j [] 0 := by simp [namesB]
     simp [q3, q15, q16, q17, hn, hnl, e]
    ·rintro i s2 hi ⟨p3, p15, p16, p17, p24, p25, p26, hni, hnli, pH⟩
     rw [nf_of pH]
     simp [p3, p15, p16, p17, p24, p25, p26]
     refine ⟨fun hlt2 => ?_, fun hge2 => ?_⟩
     ·have hwi : IntKind.i64.wrap (i + 1) = i + 1 := wrap_id (by omega) (by omega)
      obtain ⟨d, hd⟩ := get_some hlt2
      have hdm := List.mem_of_getElem? hd
      have hall : RegOkP c r e → okPre ((Ls.take j).flatten ++ l.take i ++ [d]) := fun h => by
       have h2 := (hP.1 h).2
       obtain ⟨b, hb⟩ := flat_left Ls (j + 1)
       rw [hb, flat_take hl] at h2
       have h3 := okPre_left h2
       rw [← List.take_append_drop (i + 1) l, take_snoc hd] at h3
       rw [← List.append_assoc, ← List.append_assoc] at h3
       exact okPre_left h3
      rw [okPre_snoc] at hall
      have hmem : (d.1 ∈ ((Ls.take j).flatten ++ l.take i).map (·.1)) ↔ d.1 ∈ namesB Ls j l i := Iff.rfl
      rw [hmem] at hall
      simp [hd, hwi, p3, p15, p16, p17, p24, p25, p26]
      by_cases hn1 : nameP d.1
      ·refine callW_ms [.ro] ?_
       simp
       refine callX_of ((w84 d.1 (hs l hlm d hdm)).t hn1) (by simp) ?_
       simp [hwi, p3, p15, p16, p17, p24, p25, p26]
       by_cases hm : d.1 ∈ namesB Ls j l i
       ·refine callW_ms [.ro, .ro] ?_
        simp
        refine callX_of ((w85 (namesB Ls j l i) d.1 (by omega)).t hm) (by simp) ?_
        simp [hwi, p3, p15, p16, p17, p24, p25, p26]
        intro h; exact (hall h).2.2 hm
       ·refine callW_ms [.ro, .ro] ?_
        simp
        refine callX_of ((w85 (namesB Ls j l i) d.1 (by omega)).f hm) (by simp) ?_
        simp [hwi, p3, p15, p16, p17, p24, p25, p26]
        by_cases hk : 1 ≤ d.2 ∧ d.2 ≤ 4
        ·refine callW_ms [.ro] ?_
         simp
         refine callX_of ((w86 d.2).t hk) (by simp) ?_
         simp [hwi, p3, p15, p16, p17, p24, p25, p26]
         have e1 : namesB Ls j l (i + 1) = namesB Ls j l i ++ [d.1] := by
          unfold namesB; rw [take_snoc hd, ← List.append_assoc, List.map_append]; rfl
         refine ⟨by omega, hlt2, by rw [e1]; simp, ?_, by rw [e1]; simp; omega, by rw [e1]; simp⟩
         rw [take_snoc hd, ← List.append_assoc, okPre_snoc]
         exact ⟨hni, ⟨hn1, hk⟩, hm⟩
        ·refine callW_ms [.ro] ?_
         simp
         refine callX_of ((w86 d.2).f hk) (by simp) ?_
         simp [hwi, p3, p15, p16, p17, p24, p25, p26]
         intro h; exact hk (hall h).2.1.2
      ·refine callW_ms [.ro] ?_
       simp
       refine callX_of ((w84 d.1 (hs l hlm d hdm)).f hn1) (by simp) ?_
       simp [hwi, p3, p15, p16, p17, p24, p25, p26]
       intro h; exact hn1 (hall h).2.1.1
     ·obtain rfl : i = l.length := by omega
      simp [p3, p15, p16, p17, p24, p25, p26, hw]
      have e1 : namesB Ls (j + 1) [] 0 = namesB Ls j l l.length := by
       unfold namesB; rw [flat_take hl]; simp
      rw [List.take_of_length_le (Nat.le_refl _)] at hni
      refine ⟨by omega, by rw [e1], fun l' hl' => ?_, by rw [flat_take hl]; exact hni, by rw [e1]; omega, by rw [e1]⟩
      rw [take_snoc hl, List.mem_append, List.mem_singleton] at hl'
      rcases hl' with hl' | rfl
      ·exact hlen l' hl'
      ·omega
  ·obtain rfl : j = 3 := by omega
   rw [← hl3, List.take_length] at hn hlen
   exact hP.2 ⟨hlen, hn⟩
end Go.Proofs.YtehmdblkkpdmoaaT


namespace Go.Proofs.YtehmdblkkpdmoaaT
set_option linter.unusedVariables false
set_option linter.unusedSimpArgs false
open Go
end Go.Proofs.YtehmdblkkpdmoaaT

