/- Texts of this session's own, one behind the other: Ksp, Kz1, Kx2, Kw2, Kt1, Kz2, Kz3, Kz4, Kz5, Kz6, Kx5, Kma, Ku1, Ku2, Kx6, Ku3, Ky1, Ku6, Ku7, Ku8, Kj, Km3, Km0, Kk. -/
import Derived.Test.YtehmdblkkpdmoaaPk11
import Derived.Lib.SlicesCompact
namespace Go.Proofs.YtehmdblkkpdmoaaT
set_option linter.unusedVariables false
set_option linter.unusedSimpArgs false
open Go
def ris (l : List Int) : Prop := l.Pairwise (· < ·)
end Go.Proofs.YtehmdblkkpdmoaaT


namespace Go.Proofs.YtehmdblkkpdmoaaT
set_option linter.unusedVariables false
set_option linter.unusedSimpArgs false
open Go
def c89 : TCode := (.seq (.ops [⟨(some 4), 6, .mv (.c (.b false)), none, []⟩])
 (.seq (.seq (.ops [⟨(some 7), 9, .mv (.t 0), none, []⟩, ⟨(some 8), 10, .len false (.t 7), none, []⟩, ⟨(some 9), 11, .mv (.c (.i .i64 0)), none, []⟩])
 (.block 0 (.loop (.seq (.ops [⟨(some 10), 12, .bin .lss (.t 9) (.t 8), none, []⟩])
 (.seq (.cond (.t 10)
 .skip
 (.exit 0))
 (.seq (.block 1 (.seq (.ops [⟨(some 11), 13, .mv (.t 9), none, []⟩, ⟨(some 12), 14, .iaddr 1 (.t 7) (.t 9), none, []⟩, ⟨(some 13), 15, .load false 1 (.t 12), none, []⟩, ⟨(some 5), 7, .mv (.t 11), none, []⟩, ⟨(some 6), 8, .mv (.t 13), none, []⟩])
 (.seq (.ops [⟨(some 14), 16, .mv (.t 6), none, []⟩, ⟨(some 15), 17, .mv (.t 1), none, []⟩, ⟨(some 16), 18, .bin .sub (.t 15) (.c (.i .i64 1)), none, []⟩, ⟨(some 17), 19, .call 87 [((.t 14), 0), ((.c (.i .i64 0)), 0), ((.t 16), 0)], none, []⟩, ⟨(some 18), 20, .un .not (.t 17), none, []⟩, ⟨(some 19), 21, .mv (.t 18), none, []⟩, ⟨(some 20), 22, .mv (.t 5), (some (19, false)), []⟩, ⟨(some 21), 23, .bin .gtr (.t 20) (.c (.i .i64 0)), (some (19, false)), []⟩, ⟨(some 22), 24, .mv (.t 21), (some (19, false)), []⟩, ⟨(some 23), 25, .mv (.t 0), (some (22, true)), []⟩, ⟨(some 24), 26, .mv (.t 5), (some (22, true)), []⟩, ⟨(some 25), 27, .bin .sub (.t 24) (.c (.i .i64 1)), (some (22, true)), []⟩, ⟨(some 26), 28, .iaddr 1 (.t 23) (.t 25), (some (22, true)), []⟩, ⟨(some 27), 29, .load false 1 (.t 26), (some (22, true)), []⟩, ⟨(some 28), 30, .mv (.t 6), (some (22, true)), []⟩, ⟨(some 29), 31, .bin .geq (.t 27) (.t 28), (some (22, true)), []⟩, ⟨(some 30), 32, .pick (.t 22) (.t 29) (.c (.b false)), (some (19, false)), []⟩, ⟨(some 31), 33, .pick (.t 19) (.c (.b true)) (.t 30), none, []⟩])
 (.cond (.t 31)
 (.seq (.ops [⟨(some 4), 6, .mv (.c (.b false)), none, []⟩])
 .ret)
 .skip))))
 (.ops [⟨(some 32), 34, .bin .add (.t 9) (.c (.i .i64 1)), none, []⟩, ⟨(some 9), 11, .mv (.t 32), none, []⟩])))))))
 (.seq (.ops [⟨(some 4), 6, .mv (.c (.b true)), none, []⟩])
 .ret)))
theorem k89 : compCode Try.prog Try.f89.ntmps Try.f89.body.get! = some c89 := by kernel_rfl
theorem r89 : resTmps Try.prog Try.f89.results.toList = some [.tmp 4] := by kernel_rfl
def c79 : TCode := (.seq (.ops [⟨(some 4), 6, .mv (.c (.b false)), none, []⟩])
 (.seq (.seq (.ops [⟨(some 5), 7, .mv (.c (.i .i64 0)), none, []⟩])
 (.block 0 (.loop (.seq (.seq (.ops [⟨(some 6), 8, .mv (.t 5), none, []⟩, ⟨(some 7), 9, .mv (.t 0), none, []⟩, ⟨(some 8), 10, .len false (.t 7), none, []⟩, ⟨(some 9), 11, .bin .lss (.t 6) (.t 8), none, []⟩])
 (.cond (.t 9)
 .skip
 (.exit 0)))
 (.seq (.block 1 (.seq (.draw [⟨(some 12), 14, .mv (.t 0), none, []⟩, ⟨(some 13), 15, .mv (.t 5), none, []⟩, ⟨(some 14), 16, .iaddr 1 (.t 12) (.t 13), none, []⟩, ⟨(some 15), 17, .load false 1 (.t 14), none, []⟩, ⟨(some 16), 18, .mv (.t 1), none, []⟩, ⟨(some 17), 19, .bin .sub (.t 16) (.c (.i .i64 1)), none, []⟩, ⟨(some 18), 20, .call 38 [((.t 15), 0), ((.c (.i .i64 0)), 0), ((.t 17), 0)], none, []⟩, ⟨(some 19), 21, .un .not (.t 18), none, []⟩, ⟨(some 20), 22, .mv (.t 19), none, []⟩, ⟨(some 21), 23, .mv (.t 5), (some (20, false)), []⟩, ⟨(some 22), 24, .bin .gtr (.t 21) (.c (.i .i64 0)), (some (20, false)), []⟩, ⟨(some 23), 25, .mv (.t 22), (some (20, false)), []⟩, ⟨(some 24), 26, .mv (.t 0), (some (23, true)), []⟩, ⟨(some 25), 27, .mv (.t 5), (some (23, true)), []⟩, ⟨(some 26), 28, .bin .sub (.t 25) (.c (.i .i64 1)), (some (23, true)), []⟩, ⟨(some 27), 29, .iaddr 1 (.t 24) (.t 26), (some (23, true)), []⟩, ⟨(some 28), 30, .load false 1 (.t 27), (some (23, true)), []⟩, ⟨(some 29), 31, .mv (.t 0), (some (23, true)), []⟩, ⟨(some 30), 32, .mv (.t 5), (some (23, true)), []⟩, ⟨(some 31), 33, .iaddr 1 (.t 29) (.t 30), (some (23, true)), []⟩, ⟨(some 32), 34, .load false 1 (.t 31), (some (23, true)), []⟩, ⟨(some 33), 35, .bin .geq (.t 28) (.t 32), (some (23, true)), []⟩, ⟨(some 34), 36, .pick (.t 23) (.t 33) (.c (.b false)), (some (20, false)), []⟩, ⟨(some 35), 37, .pick (.t 20) (.c (.b true)) (.t 34), none, []⟩])
 (.cond (.t 35)
 (.seq (.ops [⟨(some 4), 6, .mv (.c (.b false)), none, []⟩])
 .ret)
 .skip)))
 (.ops [⟨(some 10), 12, .mv (.t 5), none, []⟩, ⟨(some 11), 13, .bin .add (.t 10) (.c (.i .i64 1)), none, []⟩, ⟨(some 5), 7, .mv (.t 11), none, []⟩]))))))
 (.seq (.ops [⟨(some 4), 6, .mv (.c (.b true)), none, []⟩])
 .ret)))
theorem k79 : compCode Try.prog Try.f79.ntmps Try.f79.body.get! = some c79 := by kernel_rfl
theorem r79 : resTmps Try.prog Try.f79.results.toList = some [.tmp 4] := by kernel_rfl
def colsP (l : List Int) (n : Nat) : Prop := (∀ x ∈ l, 0 ≤ x ∧ x ≤ (n : Int) - 1) ∧ ris l
noncomputable instance (l : List Int) (n : Nat) : Decidable (colsP l n) := Classical.propDecidable _
theorem colsP_nil (n : Nat) : colsP [] n := ⟨by simp, List.Pairwise.nil⟩
theorem colsP_take {l : List Int} {n : Nat} (h : colsP l n) (j : Nat) : colsP (l.take j) n := ⟨fun x hx => h.1 x (List.mem_of_mem_take hx), List.Pairwise.sublist (List.take_sublist j l) h.2⟩
theorem colsP_one {l : List Int} {n : Nat} {x : Int} (hx : l[0]? = some x) : colsP (l.take 1) n ↔ 0 ≤ x ∧ x ≤ (n : Int) - 1 := by
 rw [take_snoc hx]; simp [colsP, ris]
theorem colsP_snoc {l : List Int} {n j : Nat} {x y : Int} (h : colsP (l.take (j + 1)) n) (hy : l[j]? = some y) (hx : l[j + 1]? = some x) : colsP (l.take (j + 2)) n ↔ (0 ≤ x ∧ x ≤ (n : Int) - 1) ∧ y < x := by
 rw [take_snoc hx]
 constructor
 ·rintro ⟨h1, h2⟩
  refine ⟨h1 x (by simp), ?_⟩
  have := (List.pairwise_append.1 h2).2.2 y (by rw [take_snoc hy]; simp) x (by simp)
  exact this
 ·rintro ⟨h1, h2⟩
  refine ⟨fun z hz => ?_, ?_⟩
  ·rcases List.mem_append.1 hz with hz | hz
   ·exact h.1 z hz
   ·rw [List.mem_singleton.1 hz]; exact h1
  ·refine List.pairwise_append.2 ⟨h.2, List.pairwise_singleton _ _, fun a ha b hb => ?_⟩
   rw [List.mem_singleton.1 hb]
   have hr := h.2
   rw [take_snoc hy] at ha hr
   rcases List.mem_append.1 ha with ha | ha
   ·have : a < y := (List.pairwise_append.1 hr).2.2 a ha y (by simp)
    omega
   ·rw [List.mem_singleton.1 ha]; exact h2
theorem w89 (l : List Int) (n : Nat) (hl : l.length ≤ 2^40) (hn : n ≤ 2^40) : Contract Try.prog false 89 [.ro, .ro] [.sl false 1 (l.map iT), .i .i64 n] [.b (decide (colsP l n))] [] := by
 refine mk_contract [] Try.func89 (c := Try.f89.body.get!) (by kernel_rfl) k89 r89 (of_decide_eq_true rfl) fun _ => ?_
 have wn : IntKind.i64.wrap ((n : Int) - 1) = n - 1 := wrap_id (by omega) (by omega)
 unfold c89; simp
 refine twp_for l.length (fun j s => s.t 0 = .sl false 1 (l.map iT) ∧ s.t 1 = .i .i64 n ∧ s.t 7 = .sl false 1 (l.map iT) ∧ s.t 8 = .i .i64 l.length ∧ s.t 9 = .i .i64 j ∧ colsP (l.take j) n ∧ s.H = lk [(1, [])]) [] (by simp) ?_ ?_
 ·simp [colsP_nil]
 ·rintro j s hj ⟨q0, q1, q7, q8, q9, hc, qH⟩
  rw [nf_of qH]
  simp [q0, q1, q7, q8, q9]
  refine ⟨fun hlt => ?_, fun hge => ?_⟩
  ·have hw : IntKind.i64.wrap (j + 1) = j + 1 := wrap_id (by omega) (by omega)
   obtain ⟨x, hx⟩ := get_some hlt
   simp [hx, q0, q1, q7, q8, q9, wn]
   have hno : ¬ colsP (l.take (j + 1)) n → ¬ colsP l n := fun h h2 => h (colsP_take h2 _)
   by_cases hr : 0 ≤ x ∧ x ≤ (n : Int) - 1
   ·rcases j with _ | j
    ·refine callW_ms [.ro, .ro, .ro] ?_
     simp
     refine callX_of ((w87 _ _ _).t hr) (by simp) ?_
     simp [hw, q0, q1, q7, q8, q9]
     exact ⟨by omega, by decide, (colsP_one hx).2 hr⟩
    ·obtain ⟨y, hy⟩ := get_some (show j < l.length by omega)
     have wj : IntKind.i64.wrap (((j + 1 : Nat) : Int) - 1) = j := by rw [wrap_id (by omega) (by omega)]; omega
     have wj2 : IntKind.i64.wrap (j : Int) = j := wrap_id (by omega) (by omega)
     refine callW_ms [.ro, .ro, .ro] ?_
     simp
     refine callX_of ((w87 _ _ _).t hr) (by simp) ?_
     simp [hw, wj, wj2, hx, hy, q0, q1, q7, q8, q9]
     have hs := colsP_snoc hc hy hx
     refine ⟨fun h => hno fun h2 => by have := (hs.1 h2).2; omega, fun h => ⟨by omega, wrap_id (by omega) (by omega), hs.2 ⟨hr, h⟩⟩⟩
   ·refine callW_ms [.ro, .ro, .ro] ?_
    simp
    refine callX_of ((w87 _ _ _).f hr) (by simp) ?_
    simp [hw, q0, q1, q7, q8, q9]
    exact fun h => hr (h.1 x (List.mem_of_getElem? hx))
  ·obtain rfl : j = l.length := by omega
   simpa using hc
theorem w79 (l : List Int) (n : Nat) (hl : l.length ≤ 2^40) (hn : n ≤ 2^40) : Contract Try.prog false 79 [.ro, .ro] [.sl false 1 (l.map iT), .i .i64 n] [.b (decide (colsP l n))] [] := by
 refine mk_contract [] Try.func79 (c := Try.f79.body.get!) (by kernel_rfl) k79 r79 (of_decide_eq_true rfl) fun _ => ?_
 have wn : IntKind.i64.wrap ((n : Int) - 1) = n - 1 := wrap_id (by omega) (by omega)
 unfold c79; simp
 refine twp_for l.length (fun j s => s.t 0 = .sl false 1 (l.map iT) ∧ s.t 1 = .i .i64 n ∧ s.t 5 = .i .i64 j ∧ colsP (l.take j) n ∧ s.H = lk [(1, [])]) [] (by simp) ?_ ?_
 ·simp [colsP_nil]
 ·rintro j s hj ⟨q0, q1, q5, hc, qH⟩
  rw [nf_of qH]
  simp [q0, q1, q5]
  refine ⟨fun hlt => ?_, fun hge => ?_⟩
  ·have hw : IntKind.i64.wrap (j + 1) = j + 1 := wrap_id (by omega) (by omega)
   obtain ⟨x, hx⟩ := get_some hlt
   simp [hx, q0, q1, q5, wn]
   have hno : ¬ colsP (l.take (j + 1)) n → ¬ colsP l n := fun h h2 => h (colsP_take h2 _)
   by_cases hr : 0 ≤ x ∧ x ≤ (n : Int) - 1
   ·rcases j with _ | j
    ·refine callW_ms [.ro, .ro, .ro] ?_
     simp
     refine callX_of ((w38 _ _ _).t hr) (by simp) ?_
     simp [hw, q0, q1, q5]
     exact ⟨by omega, by decide, (colsP_one hx).2 hr⟩
    ·obtain ⟨y, hy⟩ := get_some (show j < l.length by omega)
     have wj : IntKind.i64.wrap (((j + 1 : Nat) : Int) - 1) = j := by rw [wrap_id (by omega) (by omega)]; omega
     have wj2 : IntKind.i64.wrap (j : Int) = j := wrap_id (by omega) (by omega)
     have p0 : (0 : Int) ≤ (j : Int) + 1 := by omega
     refine callW_ms [.ro, .ro, .ro] ?_
     simp
     refine callX_of ((w38 _ _ _).t hr) (by simp) ?_
     simp [hw, wj, wj2, hx, hy, p0, q0, q1, q5]
     have hs := colsP_snoc hc hy hx
     refine ⟨fun h => hno fun h2 => by have := (hs.1 h2).2; omega, fun h => ⟨by omega, wrap_id (by omega) (by omega), hs.2 ⟨hr, h⟩⟩⟩
   ·refine callW_ms [.ro, .ro, .ro] ?_
    simp
    refine callX_of ((w38 _ _ _).f hr) (by simp) ?_
    simp [hw, q0, q1, q5]
    exact fun h => hr (h.1 x (List.mem_of_getElem? hx))
  ·obtain rfl : j = l.length := by omega
   simpa using hc
end Go.Proofs.YtehmdblkkpdmoaaT


namespace Go.Proofs.YtehmdblkkpdmoaaT
set_option linter.unusedVariables false
set_option linter.unusedSimpArgs false
open Go
def c124 : TCode := (.seq (.ops [⟨(some 3), 5, .box 2 (.t 1), none, []⟩, ⟨(some 4), 6, .mv (.c (.i .i64 0)), none, []⟩])
 (.seq (.seq (.ops [⟨(some 6), 8, .mv (.t 0), none, []⟩, ⟨(some 7), 9, .len false (.t 6), none, []⟩, ⟨(some 8), 10, .mv (.c (.i .i64 0)), none, []⟩])
 (.block 0 (.loop (.seq (.ops [⟨(some 9), 11, .bin .lss (.t 8) (.t 7), none, []⟩])
 (.seq (.cond (.t 9)
 .skip
 (.exit 0))
 (.seq (.block 1 (.seq (.ops [⟨(some 10), 12, .mv (.t 8), none, []⟩, ⟨(some 5), 7, .mv (.t 10), none, []⟩])
 (.seq (.draw [⟨(some 11), 13, .load true 2 (.t 3), none, []⟩, ⟨(some 12), 14, .mv (.t 0), none, []⟩, ⟨(some 13), 15, .mv (.t 5), none, []⟩, ⟨(some 14), 16, .iaddr 2 (.t 12) (.t 13), none, []⟩, ⟨(some 15), 17, .load true 2 (.t 14), none, []⟩, ⟨(some 16), 18, .eqs false true [.i, .i] (.t 11) (.t 15), none, []⟩])
 (.cond (.t 16)
 (.seq (.ops [⟨(some 17), 19, .mv (.t 5), none, []⟩, ⟨(some 4), 6, .mv (.t 17), none, []⟩])
 .ret)
 .skip))))
 (.ops [⟨(some 18), 20, .bin .add (.t 8) (.c (.i .i64 1)), none, []⟩, ⟨(some 8), 10, .mv (.t 18), none, []⟩])))))))
 (.seq (.ops [⟨(some 4), 6, .mv (.c (.i .i64 (-1))), none, []⟩])
 .ret)))
theorem k124 : compCode Try.prog Try.f124.ntmps Try.f124.body.get! = some c124 := by kernel_rfl
theorem r124 : resTmps Try.prog Try.f124.results.toList = some [.tmp 4] := by kernel_rfl
def c54 : TCode := (.seq (.ops [⟨(some 2), 4, .box 4 (.t 0), none, []⟩, ⟨(some 3), 5, .box 2 (.t 1), none, []⟩, ⟨(some 4), 6, .mv (.c (.i .i64 0)), none, []⟩, ⟨(some 5), 7, .mv (.c (.i .i64 0)), none, []⟩])
 (.seq (.seq (.ops [⟨(some 6), 8, .mv (.c (.i .i64 0)), none, []⟩])
 (.block 0 (.loop (.seq (.seq (.ops [⟨(some 8), 10, .mv (.t 6), none, []⟩, ⟨(some 9), 11, .faddr 2 1 (.t 2), none, []⟩, ⟨(some 10), 12, .load false 1 (.t 9), none, []⟩, ⟨(some 11), 13, .len false (.t 10), none, []⟩, ⟨(some 12), 14, .bin .lss (.t 8) (.t 11), none, []⟩])
 (.cond (.t 12)
 .skip
 (.exit 0)))
 (.seq (.block 1 (.seq (.ops [⟨(some 7), 9, .mv (.c (.i .i64 0)), none, []⟩])
 (.block 2 (.loop (.seq (.seq (.ops [⟨(some 15), 17, .mv (.t 7), none, []⟩, ⟨(some 16), 18, .faddr 2 1 (.t 2), none, []⟩, ⟨(some 17), 19, .load false 1 (.t 16), none, []⟩, ⟨(some 18), 20, .mv (.t 6), none, []⟩, ⟨(some 19), 21, .iaddr 3 (.t 17) (.t 18), none, []⟩, ⟨(some 20), 22, .faddr 1 1 (.t 19), none, []⟩, ⟨(some 21), 23, .load false 1 (.t 20), none, []⟩, ⟨(some 22), 24, .len false (.t 21), none, []⟩, ⟨(some 23), 25, .bin .lss (.t 15) (.t 22), none, []⟩])
 (.cond (.t 23)
 .skip
 (.exit 2)))
 (.seq (.block 3 (.seq (.draw [⟨(some 26), 28, .faddr 2 1 (.t 2), none, []⟩, ⟨(some 27), 29, .load false 1 (.t 26), none, []⟩, ⟨(some 28), 30, .mv (.t 6), none, []⟩, ⟨(some 29), 31, .iaddr 3 (.t 27) (.t 28), none, []⟩, ⟨(some 30), 32, .faddr 1 1 (.t 29), none, []⟩, ⟨(some 31), 33, .load false 1 (.t 30), none, []⟩, ⟨(some 32), 34, .mv (.t 7), none, []⟩, ⟨(some 33), 35, .iaddr 2 (.t 31) (.t 32), none, []⟩, ⟨(some 34), 36, .load true 2 (.t 33), none, []⟩, ⟨(some 35), 37, .load true 2 (.t 3), none, []⟩, ⟨(some 36), 38, .eqs false true [.i, .i] (.t 34) (.t 35), none, []⟩])
 (.cond (.t 36)
 (.seq (.ops [⟨(some 37), 39, .mv (.t 6), none, []⟩, ⟨(some 38), 40, .mv (.t 7), none, []⟩, ⟨(some 4), 6, .mv (.t 37), none, []⟩, ⟨(some 5), 7, .mv (.t 38), none, []⟩])
 .ret)
 .skip)))
 (.ops [⟨(some 24), 26, .mv (.t 7), none, []⟩, ⟨(some 25), 27, .bin .add (.t 24) (.c (.i .i64 1)), none, []⟩, ⟨(some 7), 9, .mv (.t 25), none, []⟩])))))))
 (.ops [⟨(some 13), 15, .mv (.t 6), none, []⟩, ⟨(some 14), 16, .bin .add (.t 13) (.c (.i .i64 1)), none, []⟩, ⟨(some 6), 8, .mv (.t 14), none, []⟩]))))))
 (.seq (.ops [⟨(some 4), 6, .mv (.c (.i .i64 (-1))), none, []⟩, ⟨(some 5), 7, .mv (.c (.i .i64 (-1))), none, []⟩])
 .ret)))
theorem k54 : compCode Try.prog Try.f54.ntmps Try.f54.body.get! = some c54 := by kernel_rfl
theorem r54 : resTmps Try.prog Try.f54.results.toList = some [.tmp 4, .tmp 5] := by kernel_rfl
def c94 : TCode := (.seq (.ops [⟨(some 2), 4, .box 4 (.t 0), none, []⟩, ⟨(some 3), 5, .box 2 (.t 1), none, []⟩, ⟨(some 4), 6, .mv (.c (.i .i64 0)), none, []⟩, ⟨(some 5), 7, .mv (.c (.i .i64 0)), none, []⟩])
 (.seq (.seq (.ops [⟨(some 8), 10, .faddr 2 1 (.t 2), none, []⟩, ⟨(some 9), 11, .load false 1 (.t 8), none, []⟩, ⟨(some 10), 12, .len false (.t 9), none, []⟩, ⟨(some 11), 13, .mv (.c (.i .i64 0)), none, []⟩])
 (.block 0 (.loop (.seq (.ops [⟨(some 12), 14, .bin .lss (.t 11) (.t 10), none, []⟩])
 (.seq (.cond (.t 12)
 .skip
 (.exit 0))
 (.seq (.block 1 (.seq (.ops [⟨(some 13), 15, .mv (.t 11), none, []⟩, ⟨(some 6), 8, .mv (.t 13), none, []⟩])
 (.seq (.draw [⟨(some 14), 16, .faddr 2 1 (.t 2), none, []⟩, ⟨(some 15), 17, .load false 1 (.t 14), none, []⟩, ⟨(some 16), 18, .mv (.t 6), none, []⟩, ⟨(some 17), 19, .iaddr 3 (.t 15) (.t 16), none, []⟩, ⟨(some 18), 20, .faddr 1 1 (.t 17), none, []⟩, ⟨(some 19), 21, .load false 1 (.t 18), none, []⟩, ⟨(some 20), 22, .load true 2 (.t 3), none, []⟩, ⟨(some 21), 23, .call 124 [((.t 19), 0), ((.t 20), 0)], none, []⟩, ⟨(some 7), 9, .mv (.t 21), none, []⟩])
 (.seq (.ops [⟨(some 22), 24, .mv (.t 7), none, []⟩, ⟨(some 23), 25, .bin .geq (.t 22) (.c (.i .i64 0)), none, []⟩])
 (.cond (.t 23)
 (.seq (.ops [⟨(some 24), 26, .mv (.t 6), none, []⟩, ⟨(some 25), 27, .mv (.t 7), none, []⟩, ⟨(some 4), 6, .mv (.t 24), none, []⟩, ⟨(some 5), 7, .mv (.t 25), none, []⟩])
 .ret)
 .skip)))))
 (.ops [⟨(some 26), 28, .bin .add (.t 11) (.c (.i .i64 1)), none, []⟩, ⟨(some 11), 13, .mv (.t 26), none, []⟩])))))))
 (.seq (.ops [⟨(some 4), 6, .mv (.c (.i .i64 (-1))), none, []⟩, ⟨(some 5), 7, .mv (.c (.i .i64 (-1))), none, []⟩])
 .ret)))
theorem k94 : compCode Try.prog Try.f94.ntmps Try.f94.body.get! = some c94 := by kernel_rfl
theorem r94 : resTmps Try.prog Try.f94.results.toList = some [.tmp 4, .tmp 5] := by kernel_rfl
def isE (e : Int × Int) (r : Int × Int) : Bool := decide (r = e)
def noI (e : Int × Int) (l : List (Int × Int)) : Prop := ∀ y ∈ l, isE e y = false
@[simp] theorem noI_nil (e : Int × Int) : noI e [] := fun y h => by cases h
def noE (e : Int × Int) (ts : List TableP) : Prop := ∀ t ∈ ts, ¬ 0 ≤ idxP (isE e) t.2.1
@[simp] theorem noE_nil (e : Int × Int) : noE e [] := fun y h => by cases h
theorem noE_snoc {e : Int × Int} {ts : List TableP} {t : TableP} {j : Nat} (h : noE e (ts.take j)) (ht : ts[j]? = some t) (hi : idxP (isE e) t.2.1 < 0) : noE e (ts.take (j + 1)) := by
 intro z hz
 rw [take_snoc ht] at hz
 rcases List.mem_append.1 hz with h' | h'
 ·exact h z h'
 ·simp at h'; subst h'; omega
def whereG (e : Int × Int) : List TableP → Nat → Int × Int
 | [], _ => (-1, -1)
 | t :: ts, i => if 0 ≤ idxP (isE e) t.2.1 then ((i : Int), idxP (isE e) t.2.1) else whereG e ts (i + 1)
theorem whereG_end {e : Int × Int} {i : Nat} {ts : List TableP} (h : ∀ t ∈ ts, ¬ 0 ≤ idxP (isE e) t.2.1) : whereG e ts i = (-1, -1) := by
 induction ts generalizing i with
 | nil => rfl
 | cons t ts ih =>
  simp only [whereG, if_neg (h t List.mem_cons_self)]
  exact ih fun t ht => h t (List.mem_cons_of_mem _ ht)
theorem whereG_at {e : Int × Int} {t : TableP} : ∀ {j : Nat} {i : Nat} {ts : List TableP}, (∀ t ∈ ts.take j, ¬ 0 ≤ idxP (isE e) t.2.1) → ts[j]? = some t → 0 ≤ idxP (isE e) t.2.1 → whereG e ts i = (((i + j : Nat) : Int), idxP (isE e) t.2.1)
 | 0, i, t0 :: ts, h, ht, hp => by
  simp only [List.getElem?_cons_zero, Option.some.injEq] at ht; subst ht
  simp only [whereG, if_pos hp, Nat.add_zero]
 | j + 1, i, t0 :: ts, h, ht, hp => by
  simp only [whereG, if_neg (h t0 (by simp))]
  rw [whereG_at (j := j) (fun t ht => h t (by simp only [List.take_succ_cons]; exact List.mem_cons_of_mem _ ht)) (by simpa using ht) hp]
  congr 2; omega
 | 0, i, [], h, ht, hp => by simp at ht
 | j + 1, i, [], h, ht, hp => by simp at ht
theorem w124 (l : List (Int × Int)) (e : Int × Int) (hl : l.length ≤ 2^40) : Contract Try.prog false 124 [.ro, .ro] [.sl false 2 (l.map eT), .ag (eT e)] [.i .i64 (idxP (isE e) l)] [] := by
 refine mk_contract [] Try.func124 (c := Try.f124.body.get!) (by kernel_rfl) k124 r124 (of_decide_eq_true rfl) fun _ => ?_
 unfold c124; simp
 refine twp_for l.length (fun j s => s.t 0 = .sl false 2 (l.map eT) ∧ s.t 3 = .pt [(5, 0)] 0 0 ∧ s.t 7 = .i .i64 l.length ∧ s.t 8 = .i .i64 j ∧ noI e (l.take j) ∧ s.H = lk [(1, []), (5, [.po true (eT e)])]) [] (by simp) ?_ ?_
 ·simp
 ·rintro j s hj ⟨q0, q3, q7, q8, hn, qH⟩
  rw [nf_of qH]
  simp [q0, q3, q7, q8]
  refine ⟨fun hlt => ?_, fun hge => ?_⟩
  ·have hw : IntKind.i64.wrap (j + 1) = j + 1 := wrap_id (by omega) (by omega)
   obtain ⟨y, hy⟩ := get_some hlt
   simp [hy, hw, q0, q3, q7, q8]
   by_cases hey : y = e
   ·subst hey
    simp [hw, q0, q3, q7, q8]
    exact (idxP_at hy (by simp [isE]) hn).symm
   ·have hne : (decide (e.1 = y.1) && decide (e.2 = y.2)) = false := by
     rw [Bool.eq_false_iff]; intro h
     simp only [Bool.and_eq_true, decide_eq_true_eq] at h
     exact hey (Prod.ext h.1.symm h.2.symm)
    have hs : noI e (l.take (j + 1)) := by
     intro z hz
     rw [take_snoc hy] at hz
     rcases List.mem_append.1 hz with h | h
     ·exact hn z h
     ·simp at h; subst h; simp [isE, hey]
    simp [hne, hw, q0, q3, q7, q8]
    exact ⟨hlt, hs⟩
  ·obtain rfl : j = l.length := by omega
   rw [List.take_of_length_le (Nat.le_refl _)] at hn
   exact (idxP_none hn).symm
theorem w94 (w : WorldP) (e : Int × Int) (h : okW w) : Contract Try.prog false 94 [.ro, .ro] [worldR w.1 w.2.1 w.2.2.1 w.2.2.2, .ag (eT e)] [.i .i64 (whereG e w.2.2.1 0).1, .i .i64 (whereG e w.2.2.1 0).2] [] := by
 refine mk_contract [] Try.func94 (c := Try.f94.body.get!) (by kernel_rfl) k94 r94 (of_decide_eq_true rfl) fun _ => ?_
 obtain ⟨h1, h2, ⟨h3, h4⟩, h5⟩ := h
 obtain ⟨g, f, ts, rs⟩ := w
 simp only at h1 h2 h3 h4 h5 ⊢
 unfold c94; simp
 refine twp_for ts.length (fun j s => s.t 2 = .pt [(4, 0)] 0 0 ∧ s.t 3 = .pt [(5, 0)] 0 0 ∧ s.t 10 = .i .i64 ts.length ∧ s.t 11 = .i .i64 j ∧ noE e (ts.take j) ∧ s.H = lk [(1, []), (4, [.po true [.sl false 1 (g.map iT), .sl false 1 (f.map iT), .sl false 3 (ts.map tbT), .sl false 4 (rs.map vT)]]), (5, [.po true (eT e)])]) [] (by simp) ?_ ?_
 ·simp
 ·rintro j s hj ⟨q2, q3, q10, q11, hn, qH⟩
  rw [nf_of qH]
  simp [q2, q3, q10, q11]
  refine ⟨fun hlt => ?_, fun hge => ?_⟩
  ·have hw : IntKind.i64.wrap (j + 1) = j + 1 := wrap_id (by omega) (by omega)
   obtain ⟨t, ht⟩ := get_some hlt
   have hm := List.mem_of_getElem? ht
   simp [ht, hw, q2, q3, q10, q11]
   refine callW_ms [.ro, .ro] ?_
   simp
   refine callX_of (w124 t.2.1 e (by have := (h4 t hm).2.1; omega)) (by simp) ?_
   simp [hw, q2, q3, q10, q11]
   refine ⟨fun hp => ?_, fun hp => ⟨hlt, noE_snoc hn ht hp⟩⟩
   rw [whereG_at hn ht hp]; simp
  ·obtain rfl : j = ts.length := by omega
   rw [List.take_of_length_le (Nat.le_refl _)] at hn
   rw [whereG_end hn]; simp
theorem idxP_take {e : Int × Int} {l : List (Int × Int)} : idxP (isE e) l < 0 ↔ noI e l := by
 constructor
 ·intro h z hz
  cases hb : isE e z with
  | false => rfl
  | true => have := (idxP_ge (p := isE e) (l := l)).2 ⟨z, hz, hb⟩; omega
 ·intro h; rw [idxP_none h]; omega
theorem w54 (w : WorldP) (e : Int × Int) (h : okW w) : Contract Try.prog false 54 [.ro, .ro] [worldR w.1 w.2.1 w.2.2.1 w.2.2.2, .ag (eT e)] [.i .i64 (whereG e w.2.2.1 0).1, .i .i64 (whereG e w.2.2.1 0).2] [] := by
 refine mk_contract [] Try.func54 (c := Try.f54.body.get!) (by kernel_rfl) k54 r54 (of_decide_eq_true rfl) fun _ => ?_
 obtain ⟨h1, h2, ⟨h3, h4⟩, h5⟩ := h
 obtain ⟨g, f, ts, rs⟩ := w
 simp only at h1 h2 h3 h4 h5 ⊢
 unfold c54; simp
 refine twp_for ts.length (fun j s => s.t 2 = .pt [(4, 0)] 0 0 ∧ s.t 3 = .pt [(5, 0)] 0 0 ∧ s.t 6 = .i .i64 j ∧ noE e (ts.take j) ∧ s.H = lk [(1, []), (4, [.po true [.sl false 1 (g.map iT), .sl false 1 (f.map iT), .sl false 3 (ts.map tbT), .sl false 4 (rs.map vT)]]), (5, [.po true (eT e)])]) [] (by simp) ?_ ?_
 ·simp
 ·rintro j s hj ⟨q2, q3, q6, hn, qH⟩
  rw [nf_of qH]
  simp [q2, q3, q6]
  refine ⟨fun hlt => ?_, fun hge => ?_⟩
  ·have hw : IntKind.i64.wrap (j + 1) = j + 1 := wrap_id (by omega) (by omega)
   obtain ⟨t, ht⟩ := get_some hlt
   have hm := List.mem_of_getElem? ht
   have hl := (h4 t hm).2.1
   refine twp_for t.2.1.length (fun i s2 => s2.t 2 = .pt [(4, 0)] 0 0 ∧ s2.t 3 = .pt [(5, 0)] 0 0 ∧ s2.t 6 = .i .i64 j ∧ s2.t 7 = .i .i64 i ∧ noI e (t.2.1.take i) ∧ s2.H = lk [(1, []), (4, [.po true [.sl false 1 (g.map iT), .sl false 1 (f.map iT), .sl false 3 (ts.map tbT), .sl false 4 (rs.map vT)]]), (5, [.po true (eT e)])]) [] (by simp) ?_ ?_
   ·simp [q2, q3, q6]
   ·rintro i s2 hi ⟨p2, p3, p6, p7, hni, pH⟩
    rw [nf_of pH]
    simp [p2, p3, p6, p7]
    simp [ht]
    refine ⟨fun hlt2 => ?_, fun hge2 => ?_⟩
    ·have hwi : IntKind.i64.wrap (i + 1) = i + 1 := wrap_id (by omega) (by omega)
     obtain ⟨y, hy⟩ := get_some hlt2
     simp [ht, hy, p2, p3, p6, p7]
     by_cases hey : y = e
     ·subst hey
      have hx := idxP_at hy (by simp [isE]) hni
      simp [p2, p3, p6, p7]
      rw [whereG_at hn ht (by omega), hx]; simp
     ·have hne : (decide (y.1 = e.1) && decide (y.2 = e.2)) = false := by
       rw [Bool.eq_false_iff]; intro h
       simp only [Bool.and_eq_true, decide_eq_true_eq] at h
       exact hey (Prod.ext h.1 h.2)
      have hs : noI e (t.2.1.take (i + 1)) := by
       intro z hz
       rw [take_snoc hy] at hz
       rcases List.mem_append.1 hz with h | h
       ·exact hni z h
       ·simp at h; subst h; simp [isE, hey]
      simp [hne, hwi, p2, p3, p6, p7]
      exact ⟨hlt2, hs⟩
    ·obtain rfl : i = t.2.1.length := by omega
     rw [List.take_of_length_le (Nat.le_refl _)] at hni
     simp [p2, p3, p6, p7, hw]
     exact ⟨hlt, noE_snoc hn ht (idxP_take.2 hni)⟩
  ·obtain rfl : j = ts.length := by omega
   rw [List.take_of_length_le (Nat.le_refl _)] at hn
   rw [whereG_end hn]; simp
end Go.Proofs.YtehmdblkkpdmoaaT


namespace Go.Proofs.YtehmdblkkpdmoaaT
set_option linter.unusedVariables false
set_option linter.unusedSimpArgs false
open Go
def c47 : TCode := (.seq (.ops [⟨(some 2), 4, .box 4 (.t 0), none, []⟩, ⟨(some 4), 6, .mv (.c (.b false)), none, []⟩])
 (.seq (.ops [⟨(some 5), 7, .faddr 0 1 (.t 2), none, []⟩, ⟨(some 6), 8, .load false 1 (.t 5), none, []⟩, ⟨(some 7), 9, .mv (.t 1), none, []⟩, ⟨(some 8), 10, .bin .eql (.t 6) (.t 7), none, []⟩, ⟨(some 9), 11, .mv (.t 8), none, []⟩, ⟨(some 10), 12, .load true 4 (.t 2), (some (9, true)), []⟩, ⟨(some 11), 13, .call 91 [((.t 10), 0)], (some (9, true)), []⟩, ⟨(some 12), 14, .pick (.t 9) (.t 11) (.c (.b false)), none, []⟩, ⟨(some 4), 6, .mv (.t 12), none, []⟩])
 .ret))
theorem k47 : compCode Try.prog Try.f47.ntmps Try.f47.body.get! = some c47 := by kernel_rfl
theorem r47 : resTmps Try.prog Try.f47.results.toList = some [.tmp 4] := by kernel_rfl
abbrev StrP := Int × List ValP × List ValP
def valsF (l : List ValP) : Prop := ∀ v ∈ l, valOkF v
def ofK (k : Int) (v : ValP) : Prop := v.1 = k ∧ ValOkP v
instance (k : Int) (v : ValP) : Decidable (ofK k v) := by unfold ofK; infer_instance
def allOf (k : Int) (l : List ValP) : Prop := (∀ v ∈ l, ofK k v) ∧ l.length ≤ 200
instance (k : Int) (l : List ValP) : Decidable (allOf k l) := by unfold allOf; infer_instance
def StrOkP (k : Int) (s : StrP) : Prop := (0 ≤ s.1 ∧ s.1 ≤ 1000000000000) ∧ allOf k s.2.1 ∧ allOf k s.2.2
instance (k : Int) (s : StrP) : Decidable (StrOkP k s) := by unfold StrOkP; infer_instance
theorem w47 (v : ValP) (k : Int) : Contract Try.prog false 47 [.ro, .ro] [valV v, .i .i64 k] [.b (decide (ofK k v))] [] := by
 refine mk_contract [] Try.func47 (c := Try.f47.body.get!) (by kernel_rfl) k47 r47 (of_decide_eq_true rfl) fun _ => ?_
 obtain ⟨v1, v2⟩ := v
 unfold c47; unfold valV; simp
 by_cases h : v1 = k
 ·subst h
  simp
  refine callW_ms [.ro] ?_
  simp
  refine callX_of (w91 (v1, v2)) (by simp) ?_
  simp [ofK]
 ·simp [h, ofK]
end Go.Proofs.YtehmdblkkpdmoaaT


namespace Go.Proofs.YtehmdblkkpdmoaaT
set_option linter.unusedVariables false
set_option linter.unusedSimpArgs false
open Go
def c37 : TCode := (.seq (.ops [⟨(some 4), 6, .mv (.c (.b false)), none, []⟩])
 (.seq (.seq (.ops [⟨(some 6), 8, .mv (.t 0), none, []⟩, ⟨(some 7), 9, .len false (.t 6), none, []⟩, ⟨(some 8), 10, .mv (.t 1), none, []⟩, ⟨(some 9), 11, .len false (.t 8), none, []⟩, ⟨(some 10), 12, .bin .neq (.t 7) (.t 9), none, []⟩])
 (.cond (.t 10)
 (.seq (.ops [⟨(some 4), 6, .mv (.c (.b false)), none, []⟩])
 .ret)
 .skip))
 (.seq (.seq (.ops [⟨(some 5), 7, .mv (.c (.i .i64 0)), none, []⟩])
 (.block 0 (.loop (.seq (.seq (.ops [⟨(some 11), 13, .mv (.t 5), none, []⟩, ⟨(some 12), 14, .mv (.t 0), none, []⟩, ⟨(some 13), 15, .len false (.t 12), none, []⟩, ⟨(some 14), 16, .bin .lss (.t 11) (.t 13), none, []⟩])
 (.cond (.t 14)
 .skip
 (.exit 0)))
 (.seq (.block 1 (.seq (.draw [⟨(some 17), 19, .mv (.t 0), none, []⟩, ⟨(some 18), 20, .mv (.t 5), none, []⟩, ⟨(some 19), 21, .iaddr 1 (.t 17) (.t 18), none, []⟩, ⟨(some 20), 22, .load false 1 (.t 19), none, []⟩, ⟨(some 21), 23, .mv (.t 1), none, []⟩, ⟨(some 22), 24, .mv (.t 5), none, []⟩, ⟨(some 23), 25, .iaddr 1 (.t 21) (.t 22), none, []⟩, ⟨(some 24), 26, .load false 1 (.t 23), none, []⟩, ⟨(some 25), 27, .bin .neq (.t 20) (.t 24), none, []⟩])
 (.cond (.t 25)
 (.seq (.ops [⟨(some 4), 6, .mv (.c (.b false)), none, []⟩])
 .ret)
 .skip)))
 (.ops [⟨(some 15), 17, .mv (.t 5), none, []⟩, ⟨(some 16), 18, .bin .add (.t 15) (.c (.i .i64 1)), none, []⟩, ⟨(some 5), 7, .mv (.t 16), none, []⟩]))))))
 (.seq (.ops [⟨(some 4), 6, .mv (.c (.b true)), none, []⟩])
 .ret))))
theorem k37 : compCode Try.prog Try.f37.ntmps Try.f37.body.get! = some c37 := by kernel_rfl
theorem r37 : resTmps Try.prog Try.f37.results.toList = some [.tmp 4] := by kernel_rfl
def c90 : TCode := (.seq (.ops [⟨(some 4), 6, .mv (.c (.b false)), none, []⟩])
 (.seq (.seq (.ops [⟨(some 6), 8, .mv (.t 0), none, []⟩, ⟨(some 7), 9, .len false (.t 6), none, []⟩, ⟨(some 8), 10, .mv (.t 1), none, []⟩, ⟨(some 9), 11, .len false (.t 8), none, []⟩, ⟨(some 10), 12, .bin .neq (.t 7) (.t 9), none, []⟩])
 (.cond (.t 10)
 (.seq (.ops [⟨(some 4), 6, .mv (.c (.b false)), none, []⟩])
 .ret)
 .skip))
 (.seq (.seq (.ops [⟨(some 11), 13, .mv (.t 0), none, []⟩, ⟨(some 12), 14, .len false (.t 11), none, []⟩, ⟨(some 13), 15, .mv (.c (.i .i64 0)), none, []⟩])
 (.block 0 (.loop (.seq (.ops [⟨(some 14), 16, .bin .lss (.t 13) (.t 12), none, []⟩])
 (.seq (.cond (.t 14)
 .skip
 (.exit 0))
 (.seq (.block 1 (.seq (.ops [⟨(some 15), 17, .mv (.t 13), none, []⟩, ⟨(some 5), 7, .mv (.t 15), none, []⟩])
 (.seq (.draw [⟨(some 16), 18, .mv (.t 0), none, []⟩, ⟨(some 17), 19, .mv (.t 5), none, []⟩, ⟨(some 18), 20, .iaddr 1 (.t 16) (.t 17), none, []⟩, ⟨(some 19), 21, .load false 1 (.t 18), none, []⟩, ⟨(some 20), 22, .mv (.t 1), none, []⟩, ⟨(some 21), 23, .mv (.t 5), none, []⟩, ⟨(some 22), 24, .iaddr 1 (.t 20) (.t 21), none, []⟩, ⟨(some 23), 25, .load false 1 (.t 22), none, []⟩, ⟨(some 24), 26, .bin .neq (.t 19) (.t 23), none, []⟩])
 (.cond (.t 24)
 (.seq (.ops [⟨(some 4), 6, .mv (.c (.b false)), none, []⟩])
 .ret)
 .skip))))
 (.ops [⟨(some 25), 27, .bin .add (.t 13) (.c (.i .i64 1)), none, []⟩, ⟨(some 13), 15, .mv (.t 25), none, []⟩])))))))
 (.seq (.ops [⟨(some 4), 6, .mv (.c (.b true)), none, []⟩])
 .ret))))
theorem k90 : compCode Try.prog Try.f90.ntmps Try.f90.body.get! = some c90 := by kernel_rfl
theorem r90 : resTmps Try.prog Try.f90.results.toList = some [.tmp 4] := by kernel_rfl
theorem w37 (a b : List Int) (ha : a.length ≤ 2^40) (hb : b.length ≤ 2^40) : Contract Try.prog false 37 [.ro, .ro] [.sl false 1 (a.map iT), .sl false 1 (b.map iT)] [.b (decide (a = b))] [] := by
 refine mk_contract [] Try.func37 (c := Try.f37.body.get!) (by kernel_rfl) k37 r37 (of_decide_eq_true rfl) fun _ => ?_
 unfold c37; simp
 refine ⟨fun h => ?_, fun h => ?_⟩
 ·refine twp_for a.length (fun j s => s.t 0 = .sl false 1 (a.map iT) ∧ s.t 1 = .sl false 1 (b.map iT) ∧ s.t 5 = .i .i64 j ∧ a.take j = b.take j ∧ s.H = lk [(1, [])]) [] (by simp) ?_ ?_
  ·simp
  ·rintro j s hj ⟨q0, q1, q5, hab, qH⟩
   rw [nf_of qH]
   simp [q0, q1, q5]
   refine ⟨fun hlt => ?_, fun hge => ?_⟩
   ·have hw : IntKind.i64.wrap (j + 1) = j + 1 := wrap_id (by omega) (by omega)
    obtain ⟨x, hx⟩ := get_some hlt
    obtain ⟨y, hy⟩ := get_some (l := b) (j := j) (by omega)
    simp [hx, hy, hw, q0, q1, q5]
    refine ⟨fun hxy => ⟨hlt, by rw [take_snoc hx, take_snoc hy, hab, hxy]⟩, fun hxy hab => hxy (by subst hab; simpa [hx] using hy)⟩
   ·obtain rfl : j = a.length := by omega
    rw [List.take_of_length_le (Nat.le_refl _), List.take_of_length_le (by omega)] at hab
    exact hab
 ·rintro rfl; exact h rfl
theorem w90 (a b : List Int) (ha : a.length ≤ 2^40) (hb : b.length ≤ 2^40) : Contract Try.prog false 90 [.ro, .ro] [.sl false 1 (a.map iT), .sl false 1 (b.map iT)] [.b (decide (a = b))] [] := by
 refine mk_contract [] Try.func90 (c := Try.f90.body.get!) (by kernel_rfl) k90 r90 (of_decide_eq_true rfl) fun _ => ?_
 unfold c90; simp
 refine ⟨fun h => ?_, fun h => ?_⟩
 ·refine twp_for a.length (fun j s => s.t 0 = .sl false 1 (a.map iT) ∧ s.t 1 = .sl false 1 (b.map iT) ∧ s.t 12 = .i .i64 a.length ∧ s.t 13 = .i .i64 j ∧ a.take j = b.take j ∧ s.H = lk [(1, [])]) [] (by simp) ?_ ?_
  ·simp
  ·rintro j s hj ⟨q0, q1, q12, q13, hab, qH⟩
   rw [nf_of qH]
   simp [q0, q1, q12, q13]
   refine ⟨fun hlt => ?_, fun hge => ?_⟩
   ·have hw : IntKind.i64.wrap (j + 1) = j + 1 := wrap_id (by omega) (by omega)
    obtain ⟨x, hx⟩ := get_some hlt
    obtain ⟨y, hy⟩ := get_some (l := b) (j := j) (by omega)
    simp [hx, hy, hw, q0, q1, q12, q13]
    refine ⟨fun hxy => ⟨hlt, by rw [take_snoc hx, take_snoc hy, hab, hxy]⟩, fun hxy hab => hxy (by subst hab; simpa [hx] using hy)⟩
   ·obtain rfl : j = a.length := by omega
    rw [List.take_of_length_le (Nat.le_refl _), List.take_of_length_le (by omega)] at hab
    exact hab
 ·rintro rfl; exact h rfl
end Go.Proofs.YtehmdblkkpdmoaaT


namespace Go.Proofs.YtehmdblkkpdmoaaT
set_option linter.unusedVariables false
set_option linter.unusedSimpArgs false
open Go
def c46 : TCode := (.seq (.ops [⟨(some 4), 6, .mv (.c (.i .i64 0)), none, []⟩])
 (.seq (.seq (.ops [⟨(some 6), 8, .mv (.t 0), none, []⟩, ⟨(some 7), 9, .nilck (.t 6), none, []⟩, ⟨(some 8), 10, .faddr 2 1 (.t 7), none, []⟩, ⟨(some 9), 11, .load false 1 (.t 8), none, []⟩, ⟨(some 10), 12, .len false (.t 9), none, []⟩, ⟨(some 11), 13, .mv (.c (.i .i64 0)), none, []⟩])
 (.block 0 (.loop (.seq (.ops [⟨(some 12), 14, .bin .lss (.t 11) (.t 10), none, []⟩])
 (.seq (.cond (.t 12)
 .skip
 (.exit 0))
 (.seq (.block 1 (.seq (.ops [⟨(some 13), 15, .mv (.t 11), none, []⟩, ⟨(some 5), 7, .mv (.t 13), none, []⟩])
 (.seq (.ops [⟨(some 14), 16, .mv (.t 0), none, []⟩, ⟨(some 15), 17, .nilck (.t 14), none, []⟩, ⟨(some 16), 18, .faddr 2 1 (.t 15), none, []⟩, ⟨(some 17), 19, .load false 1 (.t 16), none, []⟩, ⟨(some 18), 20, .mv (.t 5), none, []⟩, ⟨(some 19), 21, .iaddr 3 (.t 17) (.t 18), none, []⟩, ⟨(some 20), 22, .faddr 0 1 (.t 19), none, []⟩, ⟨(some 21), 23, .load false 1 (.t 20), none, []⟩, ⟨(some 22), 24, .mv (.t 1), none, []⟩, ⟨(some 23), 25, .call 90 [((.t 21), 0), ((.t 22), 0)], none, []⟩])
 (.cond (.t 23)
 (.seq (.ops [⟨(some 24), 26, .mv (.t 5), none, []⟩, ⟨(some 4), 6, .mv (.t 24), none, []⟩])
 .ret)
 .skip))))
 (.ops [⟨(some 25), 27, .bin .add (.t 11) (.c (.i .i64 1)), none, []⟩, ⟨(some 11), 13, .mv (.t 25), none, []⟩])))))))
 (.seq (.ops [⟨(some 4), 6, .mv (.c (.i .i64 (-1))), none, []⟩])
 .ret)))
theorem k46 : compCode Try.prog Try.f46.ntmps Try.f46.body.get! = some c46 := by kernel_rfl
theorem r46 : resTmps Try.prog Try.f46.results.toList = some [.tmp 4] := by kernel_rfl
def c45 : TCode := (.seq (.ops [⟨(some 3), 5, .box 3 (.t 1), none, []⟩, ⟨(some 4), 6, .mv (.c (.b false)), none, []⟩])
 (.seq (.seq (.draw [⟨(some 9), 11, .faddr 0 1 (.t 3), none, []⟩, ⟨(some 10), 12, .load false 1 (.t 9), none, []⟩, ⟨(some 11), 13, .mv (.t 0), none, []⟩, ⟨(some 12), 14, .nilck (.t 11), none, []⟩, ⟨(some 13), 15, .faddr 0 1 (.t 12), none, []⟩, ⟨(some 14), 16, .load false 1 (.t 13), none, []⟩, ⟨(some 15), 17, .len false (.t 14), none, []⟩, ⟨(some 16), 18, .call 89 [((.t 10), 0), ((.t 15), 0)], none, []⟩, ⟨(some 17), 19, .un .not (.t 16), none, []⟩, ⟨(some 18), 20, .mv (.t 17), none, []⟩, ⟨(some 19), 21, .faddr 2 1 (.t 3), (some (18, false)), []⟩, ⟨(some 20), 22, .load false 1 (.t 19), (some (18, false)), []⟩, ⟨(some 21), 23, .len false (.t 20), (some (18, false)), []⟩, ⟨(some 22), 24, .faddr 0 1 (.t 3), (some (18, false)), []⟩, ⟨(some 23), 25, .load false 1 (.t 22), (some (18, false)), []⟩, ⟨(some 24), 26, .len false (.t 23), (some (18, false)), []⟩, ⟨(some 25), 27, .bin .neq (.t 21) (.t 24), (some (18, false)), []⟩, ⟨(some 26), 28, .pick (.t 18) (.c (.b true)) (.t 25), none, []⟩])
 (.cond (.t 26)
 (.seq (.ops [⟨(some 4), 6, .mv (.c (.b false)), none, []⟩])
 .ret)
 .skip))
 (.seq (.seq (.ops [⟨(some 27), 29, .faddr 0 1 (.t 3), none, []⟩, ⟨(some 28), 30, .load false 1 (.t 27), none, []⟩, ⟨(some 29), 31, .len false (.t 28), none, []⟩, ⟨(some 30), 32, .mv (.c (.i .i64 0)), none, []⟩])
 (.block 0 (.loop (.seq (.ops [⟨(some 31), 33, .bin .lss (.t 30) (.t 29), none, []⟩])
 (.seq (.cond (.t 31)
 .skip
 (.exit 0))
 (.seq (.block 1 (.seq (.ops [⟨(some 32), 34, .mv (.t 30), none, []⟩, ⟨(some 33), 35, .iaddr 1 (.t 28) (.t 30), none, []⟩, ⟨(some 34), 36, .load false 1 (.t 33), none, []⟩, ⟨(some 5), 7, .mv (.t 32), none, []⟩, ⟨(some 6), 8, .mv (.t 34), none, []⟩])
 (.seq (.seq (.draw [⟨(some 35), 37, .faddr 2 1 (.t 3), none, []⟩, ⟨(some 36), 38, .load false 1 (.t 35), none, []⟩, ⟨(some 37), 39, .mv (.t 5), none, []⟩, ⟨(some 38), 40, .iaddr 1 (.t 36) (.t 37), none, []⟩, ⟨(some 39), 41, .load false 1 (.t 38), none, []⟩, ⟨(some 40), 42, .len false (.t 39), none, []⟩, ⟨(some 41), 43, .faddr 1 1 (.t 3), none, []⟩, ⟨(some 42), 44, .load false 1 (.t 41), none, []⟩, ⟨(some 43), 45, .len false (.t 42), none, []⟩, ⟨(some 44), 46, .bin .neq (.t 40) (.t 43), none, []⟩])
 (.cond (.t 44)
 (.seq (.ops [⟨(some 4), 6, .mv (.c (.b false)), none, []⟩])
 .ret)
 .skip))
 (.seq (.ops [⟨(some 45), 47, .faddr 2 1 (.t 3), none, []⟩, ⟨(some 46), 48, .load false 1 (.t 45), none, []⟩, ⟨(some 47), 49, .mv (.t 5), none, []⟩, ⟨(some 48), 50, .iaddr 1 (.t 46) (.t 47), none, []⟩, ⟨(some 49), 51, .load false 1 (.t 48), none, []⟩, ⟨(some 50), 52, .len false (.t 49), none, []⟩, ⟨(some 51), 53, .mv (.c (.i .i64 0)), none, []⟩])
 (.block 2 (.loop (.seq (.ops [⟨(some 52), 54, .bin .lss (.t 51) (.t 50), none, []⟩])
 (.seq (.cond (.t 52)
 .skip
 (.exit 2))
 (.seq (.block 3 (.seq (.ops [⟨(some 53), 55, .iaddr 4 (.t 49) (.t 51), none, []⟩, ⟨(some 54), 56, .load true 4 (.t 53), none, []⟩, ⟨(some 8), 10, .box 4 (.c (.ag [(.i .i64 0), (.i .i64 0), (.f 0), (.f 0)])), none, []⟩, ⟨none, 1010003, .store 4 (.t 8) (.t 54), none, []⟩])
 (.seq (.draw [⟨(some 55), 57, .load true 4 (.t 8), none, []⟩, ⟨(some 56), 58, .mv (.t 0), none, []⟩, ⟨(some 57), 59, .nilck (.t 56), none, []⟩, ⟨(some 58), 60, .faddr 0 1 (.t 57), none, []⟩, ⟨(some 59), 61, .load false 1 (.t 58), none, []⟩, ⟨(some 60), 62, .mv (.t 6), none, []⟩, ⟨(some 61), 63, .iaddr 2 (.t 59) (.t 60), none, []⟩, ⟨(some 62), 64, .faddr 1 1 (.t 61), none, []⟩, ⟨(some 63), 65, .load false 1 (.t 62), none, []⟩, ⟨(some 64), 66, .call 47 [((.t 55), 0), ((.t 63), 0)], none, []⟩, ⟨(some 65), 67, .un .not (.t 64), none, []⟩])
 (.cond (.t 65)
 (.seq (.ops [⟨(some 4), 6, .mv (.c (.b false)), none, []⟩])
 .ret)
 .skip))))
 (.ops [⟨(some 66), 68, .bin .add (.t 51) (.c (.i .i64 1)), none, []⟩, ⟨(some 51), 53, .mv (.t 66), none, []⟩]))))))))))
 (.ops [⟨(some 67), 69, .bin .add (.t 30) (.c (.i .i64 1)), none, []⟩, ⟨(some 30), 32, .mv (.t 67), none, []⟩])))))))
 (.seq (.ops [⟨(some 4), 6, .mv (.c (.b true)), none, []⟩])
 .ret))))
theorem k45 : compCode Try.prog Try.f45.ntmps Try.f45.body.get! = some c45 := by kernel_rfl
theorem r45 : resTmps Try.prog Try.f45.results.toList = some [.tmp 4] := by kernel_rfl
def c48 : TCode := (.seq (.ops [⟨(some 1), 3, .box 4 (.t 0), none, []⟩, ⟨(some 2), 4, .mv (.c (.b false)), none, []⟩])
 (.seq (.ops [⟨(some 12), 14, .faddr 0 2 (.t 1), none, []⟩, ⟨(some 13), 15, .load true 2 (.t 12), none, []⟩, ⟨(some 14), 16, .call 88 [((.t 13), 0)], none, []⟩, ⟨(some 11), 13, .mv (.t 14), none, []⟩, ⟨(some 15), 17, .ext 0 (.t 11), none, []⟩, ⟨(some 16), 18, .ext 1 (.t 11), none, []⟩, ⟨(some 3), 5, .mv (.t 15), none, []⟩, ⟨(some 4), 6, .mv (.t 16), none, []⟩])
 (.seq (.ops [⟨(some 17), 19, .faddr 0 2 (.t 1), none, []⟩, ⟨(some 18), 20, .faddr 0 1 (.t 17), none, []⟩, ⟨(some 19), 21, .load false 1 (.t 18), none, []⟩, ⟨(some 20), 22, .len false (.t 19), none, []⟩, ⟨(some 21), 23, .mkslice 1 1 [(.b false)] (.t 20) (.t 20), none, []⟩, ⟨(some 5), 7, .mv (.t 21), none, []⟩])
 (.seq (.ops [⟨(some 6), 8, .mv (.c (.i .i64 0)), none, []⟩])
 (.seq (.seq (.ops [⟨(some 22), 24, .faddr 2 1 (.t 1), none, []⟩, ⟨(some 23), 25, .load false 1 (.t 22), none, []⟩, ⟨(some 24), 26, .len false (.t 23), none, []⟩, ⟨(some 25), 27, .mv (.c (.i .i64 0)), none, []⟩])
 (.block 0 (.loop (.seq (.ops [⟨(some 26), 28, .bin .lss (.t 25) (.t 24), none, []⟩])
 (.seq (.cond (.t 26)
 .skip
 (.exit 0))
 (.seq (.block 1 (.seq (.ops [⟨(some 27), 29, .iaddr 3 (.t 23) (.t 25), none, []⟩, ⟨(some 28), 30, .load true 3 (.t 27), none, []⟩, ⟨(some 8), 10, .box 3 (.c (.ag [(.sl true 1 []), (.sl true 2 []), (.sl true 1 [])])), none, []⟩, ⟨none, 1006003, .store 3 (.t 8) (.t 28), none, []⟩])
 (.seq (.ops [⟨(some 29), 31, .faddr 1 1 (.t 8), none, []⟩, ⟨(some 30), 32, .load false 1 (.t 29), none, []⟩, ⟨(some 31), 33, .len false (.t 30), none, []⟩, ⟨(some 32), 34, .mv (.c (.i .i64 0)), none, []⟩])
 (.block 2 (.loop (.seq (.ops [⟨(some 33), 35, .bin .lss (.t 32) (.t 31), none, []⟩])
 (.seq (.cond (.t 33)
 .skip
 (.exit 2))
 (.seq (.block 3 (.seq (.ops [⟨(some 34), 36, .iaddr 2 (.t 30) (.t 32), none, []⟩, ⟨(some 35), 37, .load true 2 (.t 34), none, []⟩, ⟨(some 10), 12, .box 2 (.c (.ag [(.i .i64 0), (.i .i64 0)])), none, []⟩, ⟨none, 1009003, .store 2 (.t 10) (.t 35), none, []⟩])
 (.seq (.seq (.draw [⟨(some 36), 38, .faddr 0 1 (.t 10), none, []⟩, ⟨(some 37), 39, .load false 1 (.t 36), none, []⟩, ⟨(some 38), 40, .mv (.t 5), none, []⟩, ⟨(some 39), 41, .len false (.t 38), none, []⟩, ⟨(some 40), 42, .bin .sub (.t 39) (.c (.i .i64 1)), none, []⟩, ⟨(some 41), 43, .call 87 [((.t 37), 0), ((.c (.i .i64 0)), 0), ((.t 40), 0)], none, []⟩, ⟨(some 42), 44, .un .not (.t 41), none, []⟩, ⟨(some 43), 45, .mv (.t 42), none, []⟩, ⟨(some 44), 46, .mv (.t 3), (some (43, false)), []⟩, ⟨(some 45), 47, .faddr 0 1 (.t 10), (some (43, false)), []⟩, ⟨(some 46), 48, .load false 1 (.t 45), (some (43, false)), []⟩, ⟨(some 47), 49, .iaddr 1 (.t 44) (.t 46), (some (43, false)), []⟩, ⟨(some 48), 50, .load false 1 (.t 47), (some (43, false)), []⟩, ⟨(some 49), 51, .pick (.t 43) (.c (.b true)) (.t 48), none, []⟩, ⟨(some 50), 52, .mv (.t 49), none, []⟩, ⟨(some 51), 53, .mv (.t 5), (some (50, false)), []⟩, ⟨(some 52), 54, .faddr 0 1 (.t 10), (some (50, false)), []⟩, ⟨(some 53), 55, .load false 1 (.t 52), (some (50, false)), []⟩, ⟨(some 54), 56, .iaddr 1 (.t 51) (.t 53), (some (50, false)), []⟩, ⟨(some 55), 57, .load false 1 (.t 54), (some (50, false)), []⟩, ⟨(some 56), 58, .pick (.t 50) (.c (.b true)) (.t 55), none, []⟩, ⟨(some 57), 59, .mv (.t 56), none, []⟩, ⟨(some 58), 60, .faddr 0 2 (.t 1), (some (57, false)), []⟩, ⟨(some 59), 61, .faddr 0 1 (.t 58), (some (57, false)), []⟩, ⟨(some 60), 62, .load false 1 (.t 59), (some (57, false)), []⟩, ⟨(some 61), 63, .faddr 0 1 (.t 10), (some (57, false)), []⟩, ⟨(some 62), 64, .load false 1 (.t 61), (some (57, false)), []⟩, ⟨(some 63), 65, .iaddr 1 (.t 60) (.t 62), (some (57, false)), []⟩, ⟨(some 64), 66, .load false 1 (.t 63), (some (57, false)), []⟩, ⟨(some 65), 67, .faddr 1 1 (.t 10), (some (57, false)), []⟩, ⟨(some 66), 68, .load false 1 (.t 65), (some (57, false)), []⟩, ⟨(some 67), 69, .bin .neq (.t 64) (.t 66), (some (57, false)), []⟩, ⟨(some 68), 70, .pick (.t 57) (.c (.b true)) (.t 67), none, []⟩])
 (.cond (.t 68)
 (.seq (.ops [⟨(some 2), 4, .mv (.c (.b false)), none, []⟩])
 .ret)
 .skip))
 (.seq (.ops [⟨(some 69), 71, .mv (.t 5), none, []⟩, ⟨(some 70), 72, .faddr 0 1 (.t 10), none, []⟩, ⟨(some 71), 73, .load false 1 (.t 70), none, []⟩, ⟨(some 72), 74, .iaddr 1 (.t 69) (.t 71), none, []⟩, ⟨none, 1012004, .store 1 (.t 72) (.c (.b true)), none, []⟩])
 (.ops [⟨(some 73), 75, .mv (.t 6), none, []⟩, ⟨(some 74), 76, .bin .add (.t 73) (.c (.i .i64 1)), none, []⟩, ⟨(some 6), 8, .mv (.t 74), none, []⟩])))))
 (.ops [⟨(some 75), 77, .bin .add (.t 32) (.c (.i .i64 1)), none, []⟩, ⟨(some 32), 34, .mv (.t 75), none, []⟩])))))))))
 (.ops [⟨(some 76), 78, .bin .add (.t 25) (.c (.i .i64 1)), none, []⟩, ⟨(some 25), 27, .mv (.t 76), none, []⟩])))))))
 (.seq (.ops [⟨(some 77), 79, .mv (.t 6), none, []⟩, ⟨(some 78), 80, .mv (.t 5), none, []⟩, ⟨(some 79), 81, .len false (.t 78), none, []⟩, ⟨(some 80), 82, .faddr 0 2 (.t 1), none, []⟩, ⟨(some 81), 83, .faddr 1 1 (.t 80), none, []⟩, ⟨(some 82), 84, .load false 1 (.t 81), none, []⟩, ⟨(some 83), 85, .len false (.t 82), none, []⟩, ⟨(some 84), 86, .bin .sub (.t 79) (.t 83), none, []⟩, ⟨(some 85), 87, .bin .eql (.t 77) (.t 84), none, []⟩, ⟨(some 2), 4, .mv (.t 85), none, []⟩])
 .ret))))))
theorem k48 : compCode Try.prog Try.f48.ntmps Try.f48.body.get! = some c48 := by kernel_rfl
theorem r48 : resTmps Try.prog Try.f48.results.toList = some [.tmp 2] := by kernel_rfl
def c80 : TCode := (.seq (.ops [⟨(some 3), 5, .box 3 (.t 0), none, []⟩, ⟨(some 5), 7, .box 4 (.t 2), none, []⟩, ⟨(some 6), 8, .mv (.c (.b false)), none, []⟩])
 (.seq (.draw [⟨(some 7), 9, .mv (.t 1), none, []⟩, ⟨(some 8), 10, .faddr 0 1 (.t 3), none, []⟩, ⟨(some 9), 11, .load false 1 (.t 8), none, []⟩, ⟨(some 10), 12, .len false (.t 9), none, []⟩, ⟨(some 11), 13, .bin .sub (.t 10) (.c (.i .i64 1)), none, []⟩, ⟨(some 12), 14, .call 38 [((.t 7), 0), ((.c (.i .i64 0)), 0), ((.t 11), 0)], none, []⟩, ⟨(some 13), 15, .mv (.t 12), none, []⟩, ⟨(some 14), 16, .load true 4 (.t 5), (some (13, true)), []⟩, ⟨(some 15), 17, .call 35 [((.t 14), 0)], (some (13, true)), []⟩, ⟨(some 16), 18, .pick (.t 13) (.t 15) (.c (.b false)), none, []⟩, ⟨(some 17), 19, .mv (.t 16), none, []⟩, ⟨(some 18), 20, .faddr 0 1 (.t 5), (some (17, true)), []⟩, ⟨(some 19), 21, .load false 1 (.t 18), (some (17, true)), []⟩, ⟨(some 20), 22, .faddr 0 1 (.t 3), (some (17, true)), []⟩, ⟨(some 21), 23, .load false 1 (.t 20), (some (17, true)), []⟩, ⟨(some 22), 24, .mv (.t 1), (some (17, true)), []⟩, ⟨(some 23), 25, .iaddr 2 (.t 21) (.t 22), (some (17, true)), []⟩, ⟨(some 24), 26, .faddr 1 1 (.t 23), (some (17, true)), []⟩, ⟨(some 25), 27, .load false 1 (.t 24), (some (17, true)), []⟩, ⟨(some 26), 28, .bin .eql (.t 19) (.t 25), (some (17, true)), []⟩, ⟨(some 27), 29, .pick (.t 17) (.t 26) (.c (.b false)), none, []⟩, ⟨(some 6), 8, .mv (.t 27), none, []⟩])
 .ret))
theorem k80 : compCode Try.prog Try.f80.ntmps Try.f80.body.get! = some c80 := by kernel_rfl
theorem r80 : resTmps Try.prog Try.f80.results.toList = some [.tmp 6] := by kernel_rfl
def c36 : TCode := (.seq (.ops [⟨(some 2), 4, .box 3 (.t 0), none, []⟩, ⟨(some 3), 5, .box 3 (.t 1), none, []⟩, ⟨(some 4), 6, .mv (.c (.b false)), none, []⟩])
 (.seq (.seq (.ops [⟨(some 7), 9, .faddr 0 1 (.t 3), none, []⟩, ⟨(some 8), 10, .load false 1 (.t 7), none, []⟩, ⟨(some 9), 11, .len false (.t 8), none, []⟩, ⟨(some 10), 12, .bin .gtr (.t 9) (.c (.i .i64 12)), none, []⟩, ⟨(some 11), 13, .mv (.t 10), none, []⟩, ⟨(some 12), 14, .faddr 0 1 (.t 3), (some (11, false)), []⟩, ⟨(some 13), 15, .load false 1 (.t 12), (some (11, false)), []⟩, ⟨(some 14), 16, .faddr 0 1 (.t 2), (some (11, false)), []⟩, ⟨(some 15), 17, .load false 1 (.t 14), (some (11, false)), []⟩, ⟨(some 16), 18, .len false (.t 15), (some (11, false)), []⟩, ⟨(some 17), 19, .call 79 [((.t 13), 0), ((.t 16), 0)], (some (11, false)), []⟩, ⟨(some 18), 20, .un .not (.t 17), (some (11, false)), []⟩, ⟨(some 19), 21, .pick (.t 11) (.c (.b true)) (.t 18), none, []⟩, ⟨(some 20), 22, .mv (.t 19), none, []⟩, ⟨(some 21), 23, .faddr 2 1 (.t 3), (some (20, false)), []⟩, ⟨(some 22), 24, .load false 1 (.t 21), (some (20, false)), []⟩, ⟨(some 23), 25, .len false (.t 22), (some (20, false)), []⟩, ⟨(some 24), 26, .faddr 0 1 (.t 3), (some (20, false)), []⟩, ⟨(some 25), 27, .load false 1 (.t 24), (some (20, false)), []⟩, ⟨(some 26), 28, .len false (.t 25), (some (20, false)), []⟩, ⟨(some 27), 29, .bin .neq (.t 23) (.t 26), (some (20, false)), []⟩, ⟨(some 28), 30, .pick (.t 20) (.c (.b true)) (.t 27), none, []⟩, ⟨(some 29), 31, .mv (.t 28), none, []⟩, ⟨(some 30), 32, .faddr 1 1 (.t 3), (some (29, false)), []⟩, ⟨(some 31), 33, .load false 1 (.t 30), (some (29, false)), []⟩, ⟨(some 32), 34, .len false (.t 31), (some (29, false)), []⟩, ⟨(some 33), 35, .bin .gtr (.t 32) (.c (.i .i64 2000)), (some (29, false)), []⟩, ⟨(some 34), 36, .pick (.t 29) (.c (.b true)) (.t 33), none, []⟩])
 (.cond (.t 34)
 (.seq (.ops [⟨(some 4), 6, .mv (.c (.b false)), none, []⟩])
 .ret)
 .skip))
 (.seq (.seq (.ops [⟨(some 5), 7, .mv (.c (.i .i64 0)), none, []⟩])
 (.block 0 (.loop (.seq (.seq (.ops [⟨(some 35), 37, .mv (.t 5), none, []⟩, ⟨(some 36), 38, .faddr 2 1 (.t 3), none, []⟩, ⟨(some 37), 39, .load false 1 (.t 36), none, []⟩, ⟨(some 38), 40, .len false (.t 37), none, []⟩, ⟨(some 39), 41, .bin .lss (.t 35) (.t 38), none, []⟩])
 (.cond (.t 39)
 .skip
 (.exit 0)))
 (.seq (.block 1 (.seq (.seq (.draw [⟨(some 42), 44, .faddr 2 1 (.t 3), none, []⟩, ⟨(some 43), 45, .load false 1 (.t 42), none, []⟩, ⟨(some 44), 46, .mv (.t 5), none, []⟩, ⟨(some 45), 47, .iaddr 1 (.t 43) (.t 44), none, []⟩, ⟨(some 46), 48, .load false 1 (.t 45), none, []⟩, ⟨(some 47), 49, .len false (.t 46), none, []⟩, ⟨(some 48), 50, .faddr 1 1 (.t 3), none, []⟩, ⟨(some 49), 51, .load false 1 (.t 48), none, []⟩, ⟨(some 50), 52, .len false (.t 49), none, []⟩, ⟨(some 51), 53, .bin .neq (.t 47) (.t 50), none, []⟩])
 (.cond (.t 51)
 (.seq (.ops [⟨(some 4), 6, .mv (.c (.b false)), none, []⟩])
 .ret)
 .skip))
 (.seq (.ops [⟨(some 6), 8, .mv (.c (.i .i64 0)), none, []⟩])
 (.block 2 (.loop (.seq (.seq (.ops [⟨(some 52), 54, .mv (.t 6), none, []⟩, ⟨(some 53), 55, .faddr 1 1 (.t 3), none, []⟩, ⟨(some 54), 56, .load false 1 (.t 53), none, []⟩, ⟨(some 55), 57, .len false (.t 54), none, []⟩, ⟨(some 56), 58, .bin .lss (.t 52) (.t 55), none, []⟩])
 (.cond (.t 56)
 .skip
 (.exit 2)))
 (.seq (.block 3 (.seq (.draw [⟨(some 59), 61, .load true 3 (.t 2), none, []⟩, ⟨(some 60), 62, .faddr 0 1 (.t 3), none, []⟩, ⟨(some 61), 63, .load false 1 (.t 60), none, []⟩, ⟨(some 62), 64, .mv (.t 5), none, []⟩, ⟨(some 63), 65, .iaddr 1 (.t 61) (.t 62), none, []⟩, ⟨(some 64), 66, .load false 1 (.t 63), none, []⟩, ⟨(some 65), 67, .faddr 2 1 (.t 3), none, []⟩, ⟨(some 66), 68, .load false 1 (.t 65), none, []⟩, ⟨(some 67), 69, .mv (.t 5), none, []⟩, ⟨(some 68), 70, .iaddr 1 (.t 66) (.t 67), none, []⟩, ⟨(some 69), 71, .load false 1 (.t 68), none, []⟩, ⟨(some 70), 72, .mv (.t 6), none, []⟩, ⟨(some 71), 73, .iaddr 4 (.t 69) (.t 70), none, []⟩, ⟨(some 72), 74, .load true 4 (.t 71), none, []⟩, ⟨(some 73), 75, .call 80 [((.t 59), 0), ((.t 64), 0), ((.t 72), 0)], none, []⟩, ⟨(some 74), 76, .un .not (.t 73), none, []⟩])
 (.cond (.t 74)
 (.seq (.ops [⟨(some 4), 6, .mv (.c (.b false)), none, []⟩])
 .ret)
 .skip)))
 (.ops [⟨(some 57), 59, .mv (.t 6), none, []⟩, ⟨(some 58), 60, .bin .add (.t 57) (.c (.i .i64 1)), none, []⟩, ⟨(some 6), 8, .mv (.t 58), none, []⟩]))))))))
 (.ops [⟨(some 40), 42, .mv (.t 5), none, []⟩, ⟨(some 41), 43, .bin .add (.t 40) (.c (.i .i64 1)), none, []⟩, ⟨(some 5), 7, .mv (.t 41), none, []⟩]))))))
 (.seq (.ops [⟨(some 4), 6, .mv (.c (.b true)), none, []⟩])
 .ret))))
theorem k36 : compCode Try.prog Try.f36.ntmps Try.f36.body.get! = some c36 := by kernel_rfl
theorem r36 : resTmps Try.prog Try.f36.results.toList = some [.tmp 4] := by kernel_rfl
abbrev DeclsP := List (ByteArray × Int)
def flatR (ts : List TableP) : List (Int × Int) := ts.flatMap (·.2.1)
theorem flatR_snoc {ts : List TableP} {j : Nat} {t : TableP} (ht : ts[j]? = some t) : flatR (ts.take (j + 1)) = flatR (ts.take j) ++ t.2.1 := by
 unfold flatR; rw [take_snoc ht]; simp
theorem flatR_nil : flatR [] = [] := rfl
theorem flatR_pre {ts : List TableP} {j : Nat} {t : TableP} (ht : ts[j]? = some t) (k : Nat) : ∃ rest, flatR ts = (flatR (ts.take j) ++ t.2.1.take k) ++ rest := by
 refine ⟨t.2.1.drop k ++ flatR (ts.drop (j + 1)), ?_⟩
 have h1 : flatR ts = flatR (ts.take (j + 1)) ++ flatR (ts.drop (j + 1)) := by
  unfold flatR; rw [← List.flatMap_append, List.take_append_drop]
 rw [h1, flatR_snoc ht]
 conv => lhs; rw [← List.take_append_drop k t.2.1]
 simp only [List.append_assoc]
def atsR (a : List (Int × Int)) : List Int := a.map (·.1)
theorem atsR_nil : atsR [] = [] := rfl
theorem atsR_snoc (a : List (Int × Int)) (e : Int × Int) : atsR (a ++ [e]) = atsR a ++ [e.1] := by simp [atsR]
def rowsG (g f : List Int) (rs : List (Int × Int)) : Prop := (∀ e ∈ rs, liveP g f e.1 e.2) ∧ (atsR rs).Nodup
def rowsP (g f : List Int) (rs : List (Int × Int)) : Prop := rowsG g f rs ∧ (rs.length : Int) = g.length - f.length
noncomputable instance (g f : List Int) (rs : List (Int × Int)) : Decidable (rowsP g f rs) := Classical.propDecidable _
theorem rowsG_nil (g f : List Int) : rowsG g f [] := ⟨by simp, by simp [atsR]⟩
theorem rowsG_pre {g f : List Int} {a b : List (Int × Int)} (h : rowsG g f (a ++ b)) : rowsG g f a :=
 ⟨fun e he => h.1 e (by simp [he]), by have := h.2; unfold atsR at this ⊢; rw [List.map_append] at this; exact (List.nodup_append.1 this).1⟩
theorem rowsG_snoc {g f : List Int} {a : List (Int × Int)} {e : Int × Int} : rowsG g f (a ++ [e]) ↔ rowsG g f a ∧ liveP g f e.1 e.2 ∧ e.1 ∉ atsR a := by
 constructor
 ·intro h
  refine ⟨rowsG_pre h, h.1 e (by simp), fun hm => ?_⟩
  have := h.2
  rw [atsR_snoc] at this
  exact (List.nodup_append.1 this).2.2 _ hm _ (by simp) rfl
 ·rintro ⟨h1, h2, h3⟩
  refine ⟨fun x hx => ?_, ?_⟩
  ·rcases List.mem_append.1 hx with hx | hx
   ·exact h1.1 x hx
   ·rw [List.mem_singleton.1 hx]; exact h2
  ·rw [atsR_snoc]
   refine List.nodup_append.2 ⟨h1.2, by simp, fun x hx y hy => ?_⟩
   simp at hy; subst hy; rintro rfl; exact h3 hx
theorem rowsG_len {g f : List Int} {a : List (Int × Int)} (h : rowsG g f a) : a.length ≤ g.length := by
 have := len_le_of_nodup g.length (atsR a) (fun x hx => by
  obtain ⟨e, he, rfl⟩ := List.mem_map.1 hx
  have := (h.1 e he).1; omega) h.2
 simpa [atsR] using this
set_option maxHeartbeats 1000000 in
set_option maxRecDepth 100000 in
theorem w48 (w : WorldP) (h : okW w) (hE : freeOk w.1.length w.2.1) : Contract Try.prog false 48 [.ro] [worldR w.1 w.2.1 w.2.2.1 w.2.2.2] [.b (decide (rowsP w.1 w.2.1 (flatR w.2.2.1)))] [] := by
 refine mk_contract [] Try.func48 (c := Try.f48.body.get!) (by kernel_rfl) k48 r48 (of_decide_eq_true rfl) fun _ => ?_
 obtain ⟨h1, h2, ⟨h3, h4⟩, h5⟩ := h
 obtain ⟨g, f, ts, rs⟩ := w
 simp only at h1 h2 h3 h4 h5 hE ⊢
 have hfl : f.length ≤ g.length := len_le_of_nodup _ _ hE.1 hE.2
 unfold c48; simp
 have hF := w88 g f (by omega) (by omega)
 rw [if_pos hE, decide_eq_true hE] at hF
 refine callW_ms [.ro] ?_
 simp
 refine callX_of hF (by simp [entsR]) ?_
 simp
 refine ⟨by omega, ?_⟩
 refine twp_for ts.length (fun j s => s.t 1 = .pt [(3, 0)] 0 0 ∧ s.t 3 = .rf [(16, 0)] 0 g.length ∧ s.t 5 = .rf [(23, 0)] 0 g.length ∧ s.t 6 = .i .i64 (flatR (ts.take j)).length ∧ s.t 23 = .sl false 3 (ts.map tbT) ∧ s.t 24 = .i .i64 ts.length ∧ s.t 25 = .i .i64 j ∧ rowsG g f (flatR (ts.take j)) ∧ s.H = lk [(1, []), (3, [.po true [.sl false 1 (g.map iT), .sl false 1 (f.map iT), .sl false 3 (ts.map tbT), .sl false 4 (rs.map vT)]]), (16, [.sl true 1 ((freeL g.length f).map bT), .b true]), (23, [.sl true 1 ((freeL g.length (atsR (flatR (ts.take j)))).map bT)])]) [10, 12] (by simp) ?_ ?_
 ·simp [flatR_nil, atsR_nil, rowsG_nil]
 ·rintro j s hj ⟨q1, q3, q5, q6, q23, q24, q25, hG, qH⟩
  rw [nf_of qH]
  simp [q1, q3, q5, q6, q23, q24, q25]
  refine ⟨fun hlt => ?_, fun hge => ?_⟩
  ·have hw : IntKind.i64.wrap (j + 1) = j + 1 := wrap_id (by omega) (by omega)
   obtain ⟨t, ht⟩ := get_some hlt
   simp [ht, q1, q3, q5, q6, q23, q24, q25]
   have hsn := flatR_snoc ht
   obtain ⟨A, hA⟩ : ∃ A, A = flatR (ts.take j) := ⟨_, rfl⟩
   rw [← hA] at hsn
   have hpre : ∀ k, ∃ rest, flatR ts = (A ++ t.2.1.take k) ++ rest := fun k => by rw [hA]; exact flatR_pre ht k
   have htl : t.2.1.length ≤ 2^36 := (h4 t (List.mem_of_getElem? ht)).2.1
   have wg : IntKind.i64.wrap ((g.length : Int) - 1) = g.length - 1 := wrap_id (by omega) (by omega)
   have hno : ∀ k e, t.2.1[k]? = some e → ¬ rowsG g f ((A ++ t.2.1.take k) ++ [e]) → ¬ rowsP g f (flatR ts) := fun k e he h1 h2 => by
    obtain ⟨rest, hr⟩ := hpre (k + 1)
    rw [take_snoc he, ← List.append_assoc] at hr
    rw [hr] at h2
    exact h1 (rowsG_pre h2.1)
   refine twp_for t.2.1.length (fun i s2 => s2.t 1 = .pt [(3, 0)] 0 0 ∧ s2.t 3 = .rf [(16, 0)] 0 g.length ∧ s2.t 5 = .rf [(23, 0)] 0 g.length ∧ s2.t 6 = .i .i64 (A ++ t.2.1.take i).length ∧ s2.t 23 = .sl false 3 (ts.map tbT) ∧ s2.t 24 = .i .i64 ts.length ∧ s2.t 25 = .i .i64 j ∧ s2.t 30 = .sl false 2 (t.2.1.map eT) ∧ s2.t 31 = .i .i64 t.2.1.length ∧ s2.t 32 = .i .i64 i ∧ rowsG g f (A ++ t.2.1.take i) ∧ s2.H = lk [(1, []), (3, [.po true [.sl false 1 (g.map iT), .sl false 1 (f.map iT), .sl false 3 (ts.map tbT), .sl false 4 (rs.map vT)]]), (16, [.sl true 1 ((freeL g.length f).map bT), .b true]), (23, [.sl true 1 ((freeL g.length (atsR (A ++ t.2.1.take i))).map bT)]), (10, [.po true [.sl false 1 (t.1.map iT), .sl false 2 (t.2.1.map eT), .sl false 1 (t.2.2.map cvT)]])]) [12] (by simp) ?_ ?_
   ·rw [← hA] at hG
    simp [q1, q3, q5, q6, q23, q24, q25, ← hA, hG]
   ·rintro i s2 hi ⟨p1, p3, p5, p6, p23, p24, p25, p30, p31, p32, hG2, pH⟩
    obtain ⟨B, hB⟩ : ∃ B, B = A ++ t.2.1.take i := ⟨_, rfl⟩
    have hlen := rowsG_len hG2
    rw [← hB] at hG2 hlen p6 pH
    rw [nf_of pH]
    simp [p1, p3, p5, p6, p23, p24, p25, p30, p31, p32]
    refine ⟨fun hlt2 => ?_, fun hge2 => ?_⟩
    ·have hwi : IntKind.i64.wrap (i + 1) = i + 1 := wrap_id (by omega) (by omega)
     obtain ⟨e, he⟩ := get_some hlt2
     have hsn2 := take_snoc he
     have hno2 := hno i e he
     rw [← hB] at hno2
     rw [rowsG_snoc] at hno2
     have hBs : A ++ t.2.1.take (i + 1) = B ++ [e] := by rw [hsn2, hB, List.append_assoc]
     have wB : IntKind.i64.wrap ((B.length : Int) + 1) = B.length + 1 := wrap_id (by omega) (by omega)
     simp [he, p1, p3, p5, p6, p23, p24, p25, p30, p31, p32, wg]
     by_cases hr : 0 ≤ e.1 ∧ e.1 ≤ (g.length : Int) - 1
     rotate_left
     ·refine callW_ms [.ro, .ro, .ro] ?_
      simp
      refine callX_of ((w87 _ _ _).f hr) (by simp) ?_
      simp [p1, p3, p5, p6, p23, p24, p25, p30, p31, p32]
      exact hno2 fun h => hr h.2.1.1
     have hgf := freeL_get (n := g.length) (f := f) (x := e.1) hr.1 (by omega)
     have hgB := freeL_get (n := g.length) (f := atsR B) (x := e.1) hr.1 (by omega)
     obtain ⟨y, hy⟩ : ∃ y, g[e.1.toNat]? = some y := get_some (by omega)
     have hr0 := hr.1
     by_cases hf : e.1 ∈ f
     ·refine callW_ms [.ro, .ro, .ro] ?_
      simp
      refine callX_of ((w87 _ _ _).t hr) (by simp) ?_
      simp [hgf, hf, hr0, p1, p3, p5, p6, p23, p24, p25, p30, p31, p32]
      exact ⟨by omega, hno2 fun h => h.2.1.2.2 hf⟩
     by_cases hb : e.1 ∈ atsR B
     ·refine callW_ms [.ro, .ro, .ro] ?_
      simp
      refine callX_of ((w87 _ _ _).t hr) (by simp) ?_
      simp [hgf, hf, hgB, hb, hr0, p1, p3, p5, p6, p23, p24, p25, p30, p31, p32]
      exact ⟨by omega, hno2 fun h => h.2.2 hb⟩
     have hset : (List.map bT (freeL g.length (atsR B))).set e.1.toNat [.b true] = List.map bT (freeL g.length (atsR (B ++ [e]))) := by
      rw [atsR_snoc, ← freeL_set hr.1 (by omega)]; simp
     refine callW_ms [.ro, .ro, .ro] ?_
     simp
     refine callX_of ((w87 _ _ _).t hr) (by simp) ?_
     simp [hgf, hf, hgB, hb, hy, hr0, hset, wB, hwi, hBs, p1, p3, p5, p6, p23, p24, p25, p30, p31, p32]
     have hBl : B.length = A.length + i := by rw [hB]; simp; omega
     refine ⟨by omega, fun hyv => ⟨by omega, hlt2, by omega, rowsG_snoc.2 ⟨hG2, ⟨hr, by rw [hy, hyv], hf⟩, hb⟩⟩, fun hyv => hno2 fun h => hyv ?_⟩
     have := h.2.1.2.1
     rw [hy] at this
     exact Option.some.inj this
    ·obtain rfl : i = t.2.1.length := by omega
     rw [List.take_of_length_le (Nat.le_refl _)] at hB
     rw [hsn, ← hB]
     exact ⟨hlt, rfl, hw, hG2, rfl⟩
  ·obtain rfl : j = ts.length := by omega
   rw [wrap_id (by omega) (by omega)]
   rw [List.take_of_length_le (Nat.le_refl _)] at hG ⊢
   exact ⟨fun h => ⟨hG, h⟩, fun h => h.2⟩
end Go.Proofs.YtehmdblkkpdmoaaT


namespace Go.Proofs.YtehmdblkkpdmoaaT
set_option linter.unusedVariables false
set_option linter.unusedSimpArgs false
open Go
def fitP (c : DeclsP) (k : Int) (v : ValP) : Prop := (0 ≤ k ∧ k ≤ (c.length : Int) - 1) ∧ ValOkP v ∧ (c[k.toNat]?).map (·.2) = some v.1
noncomputable instance (c : DeclsP) (k : Int) (v : ValP) : Decidable (fitP c k v) := Classical.propDecidable _
theorem fitP_of {c : DeclsP} {k : Int} {v : ValP} {d : ByteArray × Int} (h : 0 ≤ k ∧ k ≤ (c.length : Int) - 1) (hd : c[k.toNat]? = some d) : fitP c k v ↔ ofK d.2 v := by
 unfold fitP ofK
 rw [hd]
 simp only [Option.map_some, Option.some.injEq]
 exact ⟨fun h2 => ⟨h2.2.2.symm, h2.2.1⟩, fun h2 => ⟨h, h2.2, h2.1.symm⟩⟩
theorem w80 (c r e : DeclsP) (k : Int) (v : ValP) (hv : valOkF v) (hc : c.length ≤ 2^40) : Contract Try.prog false 80 [.ro, .ro, .ro] [regR c r e, .i .i64 k, valV v] [.b (decide (fitP c k v))] [] := by
 refine mk_contract [] Try.func80 (c := Try.f80.body.get!) (by kernel_rfl) k80 r80 (of_decide_eq_true rfl) fun _ => ?_
 have hw : IntKind.i64.wrap ((c.length : Int) - 1) = c.length - 1 := wrap_id (by omega) (by omega)
 unfold c80; unfold regR valV; simp [hw]
 by_cases h1 : 0 ≤ k ∧ k ≤ (c.length : Int) - 1
 ·obtain ⟨d, hd⟩ : ∃ d, c[k.toNat]? = some d := get_some (by omega)
  refine callW_ms [.ro, .ro, .ro] ?_
  simp
  refine callX_of ((w38 _ _ _).t h1) (by simp) ?_
  simp
  by_cases h2 : ValOkP v
  ·refine callW_ms [.ro] ?_
   simp [valV]
   refine callX_of ((w35 v hv).t h2) (by simp) ?_
   simp [hd, h1.1]
   simp [fitP, h1, h2, hd]
   exact ⟨fun h => h.symm, fun h => h.symm⟩
  ·refine callW_ms [.ro] ?_
   simp [valV]
   refine callX_of ((w35 v hv).f h2) (by simp) ?_
   simp
   simp [fitP, h2]
 ·refine callW_ms [.ro, .ro, .ro] ?_
  simp
  refine callX_of ((w38 _ _ _).f h1) (by simp) ?_
  simp
  have : ¬ fitP c k v := fun h => h1 h.1
  simp [this]
def kindsUp (k : Int) (l : List ValP) : Prop := ∀ v ∈ l, ofK k v
theorem kindsUp_nil (k : Int) : kindsUp k [] := fun _ h => by cases h
theorem kindsUp_snoc {k : Int} {l : List ValP} {v : ValP} (h : kindsUp k l) (hv : ofK k v) : kindsUp k (l ++ [v]) := fun x hx => by
 rcases List.mem_append.1 hx with hx | hx
 ·exact h x hx
 ·rw [List.mem_singleton.1 hx]; exact hv
def colG (c : DeclsP) (t : TableP) (i : Nat) : Prop := ∀ x vs, t.1[i]? = some x → t.2.2[i]? = some vs → vs.length = t.2.1.length ∧ ∀ v ∈ vs, fitP c x v
def tabP (c : DeclsP) (t : TableP) : Prop := colsP t.1 c.length ∧ t.2.2.length = t.1.length ∧ ∀ i, colG c t i
noncomputable instance (c : DeclsP) (t : TableP) : Decidable (tabP c t) := Classical.propDecidable _
def colsUp (c : DeclsP) (t : TableP) (j : Nat) : Prop := ∀ i, i < j → colG c t i
theorem colsUp_zero (c : DeclsP) (t : TableP) : colsUp c t 0 := fun i h => by omega
theorem colsUp_succ {c : DeclsP} {t : TableP} {j : Nat} : colsUp c t (j + 1) ↔ colsUp c t j ∧ colG c t j := by
 constructor
 ·intro h; exact ⟨fun i hi => h i (by omega), h j (by omega)⟩
 ·rintro ⟨h1, h2⟩ i hi
  by_cases hij : i = j
  ·rw [hij]; exact h2
  ·exact h1 i (by omega)
theorem colsUp_all {c : DeclsP} {t : TableP} (h : colsUp c t t.1.length) : ∀ i, colG c t i := fun i x vs hx => h i (List.getElem?_eq_some_iff.1 hx).1 x vs hx
set_option maxRecDepth 100000 in
theorem w45 (c r e : DeclsP) (t : TableP) (h : okT t) (hc : c.length ≤ 2^40) : Contract Try.prog false 45 [.ro, .ro] [.po false [.sl false 2 (c.map dT), .sl false 2 (r.map dT), .sl false 2 (e.map dT)], tableR t] [.b (decide (tabP c t))] [] := by
 refine mk_contract [] Try.func45 (c := Try.f45.body.get!) (by kernel_rfl) k45 r45 (of_decide_eq_true rfl) fun _ => ?_
 obtain ⟨h1, h2, h3, h4⟩ := h
 unfold c45; simp
 by_cases hcol : colsP t.1 c.length
 rotate_left
 ·refine callW_ms [.ro, .ro] ?_
  simp
  refine callX_of ((w89 t.1 c.length (by omega) hc).f hcol) (by simp) ?_
  simp
  simp [tabP, hcol]
 refine callW_ms [.ro, .ro] ?_
 simp
 refine callX_of ((w89 t.1 c.length (by omega) hc).t hcol) (by simp) ?_
 simp
 refine ⟨fun hl => ?_, fun hl => ?_⟩
 rotate_left
 ·have hl2 : ¬ t.2.2.length = t.1.length := fun h => hl (by rw [h])
  exact fun h => hl2 h.2.1
 have hl2 : t.2.2.length = t.1.length := by omega
 refine twp_for t.1.length (fun j s => s.t 0 = .po false [.sl false 2 (c.map dT), .sl false 2 (r.map dT), .sl false 2 (e.map dT)] ∧ s.t 3 = .pt [(5, 0)] 0 0 ∧ s.t 28 = .sl false 1 (t.1.map iT) ∧ s.t 29 = .i .i64 t.1.length ∧ s.t 30 = .i .i64 j ∧ colsUp c t j ∧ s.H = lk [(1, []), (5, [.po true (tbT t)])]) [] (by simp) ?_ ?_
 ·simp [colsUp_zero]
 ·rintro j s hj ⟨q0, q3, q28, q29, q30, hU, qH⟩
  rw [nf_of qH]
  simp [q0, q3, q28, q29, q30]
  refine ⟨fun hlt => ?_, fun hge => ?_⟩
  ·have hw : IntKind.i64.wrap (j + 1) = j + 1 := wrap_id (by omega) (by omega)
   obtain ⟨x, hx⟩ := get_some hlt
   obtain ⟨vs, hvs⟩ := get_some (show j < t.2.2.length by omega)
   have hxr := hcol.1 x (List.mem_of_getElem? hx)
   have hx0 := hxr.1
   obtain ⟨d, hd⟩ : ∃ d, c[x.toNat]? = some d := get_some (by omega)
   have hvl := h4 vs (List.mem_of_getElem? hvs)
   have hcg : colG c t j ↔ vs.length = t.2.1.length ∧ ∀ v ∈ vs, ofK d.2 v := by
    constructor
    ·intro h
     obtain ⟨g1, g2⟩ := h x vs hx hvs
     exact ⟨g1, fun v hv => (fitP_of hxr hd).1 (g2 v hv)⟩
    ·rintro ⟨g1, g2⟩ x' vs' hx' hvs'
     rw [hx] at hx'; rw [hvs] at hvs'; cases hx'; cases hvs'
     exact ⟨g1, fun v hv => (fitP_of hxr hd).2 (g2 v hv)⟩
   have hno : ¬ colG c t j → ¬ tabP c t := fun h h2 => h (h2.2.2 j)
   simp [hx, hvs, q0, q3, q28, q29, q30]
   refine ⟨fun hvr => ?_, fun hvr => hno fun h => hvr (by rw [(hcg.1 h).1])⟩
   have hvr2 : vs.length = t.2.1.length := by omega
   refine twp_for vs.length (fun i s2 => s2.t 0 = .po false [.sl false 2 (c.map dT), .sl false 2 (r.map dT), .sl false 2 (e.map dT)] ∧ s2.t 3 = .pt [(5, 0)] 0 0 ∧ s2.t 6 = .i .i64 x ∧ s2.t 28 = .sl false 1 (t.1.map iT) ∧ s2.t 29 = .i .i64 t.1.length ∧ s2.t 30 = .i .i64 j ∧ s2.t 49 = .sl false 4 (vs.map vT) ∧ s2.t 50 = .i .i64 vs.length ∧ s2.t 51 = .i .i64 i ∧ kindsUp d.2 (vs.take i) ∧ s2.H = lk [(1, []), (5, [.po true (tbT t)])]) [10] (by simp) ?_ ?_
   ·simp [q0, q3, q28, q29, q30, hvr, kindsUp_nil]
   ·rintro i s2 hi ⟨p0, p3, p6, p28, p29, p30, p49, p50, p51, hV, pH⟩
    rw [nf_of pH]
    simp [p0, p3, p6, p28, p29, p30, p49, p50, p51]
    refine ⟨fun hlt2 => ?_, fun hge2 => ?_⟩
    ·have hwi : IntKind.i64.wrap (i + 1) = i + 1 := wrap_id (by omega) (by omega)
     obtain ⟨v, hv⟩ := get_some hlt2
     have hsn := take_snoc hv
     simp [hv, hd, hx0, p0, p3, p6, p28, p29, p30, p49, p50, p51]
     by_cases hk : ofK d.2 v
     ·refine callW_ms [.ro, .ro] ?_
      simp [valV]
      refine callX_of ((w47 v d.2).t hk) (by simp) ?_
      simp [hwi, hvr, p0, p3, p6, p28, p29, p30, p49, p50, p51]
      rw [hsn]
      exact ⟨by omega, kindsUp_snoc hV hk⟩
     ·refine callW_ms [.ro, .ro] ?_
      simp [valV]
      refine callX_of ((w47 v d.2).f hk) (by simp) ?_
      simp [hwi, p0, p3, p6, p28, p29, p30, p49, p50, p51]
      exact hno fun h => hk ((hcg.1 h).2 v (List.mem_of_getElem? hv))
    ·obtain rfl : i = vs.length := by omega
     rw [List.take_of_length_le (Nat.le_refl _)] at hV
     exact ⟨hlt, hw, colsUp_succ.2 ⟨hU, hcg.2 ⟨hvr2, hV⟩⟩⟩
  ·obtain rfl : j = t.1.length := by omega
   exact ⟨hcol, hl2, colsUp_all hU⟩
def stabP (c : DeclsP) (t : TableP) : Prop := (t.1.length ≤ 12 ∧ t.2.1.length ≤ 2000) ∧ tabP c t
noncomputable instance (c : DeclsP) (t : TableP) : Decidable (stabP c t) := Classical.propDecidable _
set_option maxRecDepth 100000 in
theorem w36 (c r e : DeclsP) (t : TableP) (h : okT t) (hc : c.length ≤ 2^40) (hf : ∀ vs ∈ t.2.2, valsF vs) : Contract Try.prog false 36 [.ro, .ro] [regR c r e, tableR t] [.b (decide (stabP c t))] [] := by
 refine mk_contract [] Try.func36 (c := Try.f36.body.get!) (by kernel_rfl) k36 r36 (of_decide_eq_true rfl) fun _ => ?_
 obtain ⟨h1, h2, h3, h4⟩ := h
 unfold c36; unfold regR; simp
 cases hb1 : decide ((12 : Int) < (t.1.length : Int))
 rotate_left
 ·have : (12 : Int) < t.1.length := of_decide_eq_true hb1
  have hno : ¬ stabP c t := fun h => by have := h.1.1; omega
  simp [hb1, hno]
 have hl1 : t.1.length ≤ 12 := by have := of_decide_eq_false hb1; omega
 simp [hb1]
 by_cases hcol : colsP t.1 c.length
 rotate_left
 ·refine callW_ms [.ro, .ro] ?_
  simp
  refine callX_of ((w79 t.1 c.length (by omega) hc).f hcol) (by simp) ?_
  simp
  exact fun h => hcol h.2.1
 refine callW_ms [.ro, .ro] ?_
 simp
 refine callX_of ((w79 t.1 c.length (by omega) hc).t hcol) (by simp) ?_
 simp
 by_cases hl2 : t.2.2.length = t.1.length
 rotate_left
 ·have hl3 : ¬ ((t.2.2.length : Int) = t.1.length) := by omega
  have hno : ¬ stabP c t := fun h => hl2 h.2.2.1
  simp [hl3, hno]
 simp [hl2]
 refine ⟨fun hl4 => fun h => by have := h.1.2; omega, fun hl4 => ?_⟩
 have hno : ∀ i, ¬ colG c t i → ¬ stabP c t := fun i h h2 => h (h2.2.2.2 i)
 refine twp_for t.1.length (fun j s => s.t 2 = .pt [(4, 0)] 0 0 ∧ s.t 3 = .pt [(5, 0)] 0 0 ∧ s.t 5 = .i .i64 j ∧ colsUp c t j ∧ s.H = lk [(1, []), (4, [.po true [.sl false 2 (c.map dT), .sl false 2 (r.map dT), .sl false 2 (e.map dT)]]), (5, [.po true (tbT t)])]) [] (by simp) ?_ ?_
 ·simp [colsUp_zero]
 ·rintro j s hj ⟨q2, q3, q5, hU, qH⟩
  rw [nf_of qH]
  simp [q2, q3, q5, hl2]
  refine ⟨fun hlt => ?_, fun hge => ?_⟩
  ·have hw : IntKind.i64.wrap (j + 1) = j + 1 := wrap_id (by omega) (by omega)
   obtain ⟨x, hx⟩ := get_some hlt
   obtain ⟨vs, hvs⟩ := get_some (show j < t.2.2.length by omega)
   have hxr := hcol.1 x (List.mem_of_getElem? hx)
   have hx0 := hxr.1
   obtain ⟨d, hd⟩ : ∃ d, c[x.toNat]? = some d := get_some (by omega)
   have hvl := h4 vs (List.mem_of_getElem? hvs)
   have hvf := hf vs (List.mem_of_getElem? hvs)
   have hcg : colG c t j ↔ vs.length = t.2.1.length ∧ ∀ v ∈ vs, ofK d.2 v := by
    constructor
    ·intro h
     obtain ⟨g1, g2⟩ := h x vs hx hvs
     exact ⟨g1, fun v hv => (fitP_of hxr hd).1 (g2 v hv)⟩
    ·rintro ⟨g1, g2⟩ x' vs' hx' hvs'
     rw [hx] at hx'; rw [hvs] at hvs'; cases hx'; cases hvs'
     exact ⟨g1, fun v hv => (fitP_of hxr hd).2 (g2 v hv)⟩
   simp [hx, hvs, hl2, q2, q3, q5]
   refine ⟨fun hvr => ?_, fun hvr => hno j fun h => hvr (by rw [(hcg.1 h).1])⟩
   have hvr2 : vs.length = t.2.1.length := by omega
   refine twp_for t.2.1.length (fun i s2 => s2.t 2 = .pt [(4, 0)] 0 0 ∧ s2.t 3 = .pt [(5, 0)] 0 0 ∧ s2.t 5 = .i .i64 j ∧ s2.t 6 = .i .i64 i ∧ kindsUp d.2 (vs.take i) ∧ s2.H = lk [(1, []), (4, [.po true [.sl false 2 (c.map dT), .sl false 2 (r.map dT), .sl false 2 (e.map dT)]]), (5, [.po true (tbT t)])]) [] (by simp) ?_ ?_
   ·simp [q2, q3, q5, kindsUp_nil]
   ·rintro i s2 hi ⟨p2, p3, p5, p6, hV, pH⟩
    rw [nf_of pH]
    simp [p2, p3, p5, p6]
    refine ⟨fun hlt2 => ?_, fun hge2 => ?_⟩
    ·have hwi : IntKind.i64.wrap (i + 1) = i + 1 := wrap_id (by omega) (by omega)
     obtain ⟨v, hv⟩ := get_some (show i < vs.length by omega)
     have hsn := take_snoc hv
     simp [hv, hx, hvs, hl2, p2, p3, p5, p6]
     by_cases hk : fitP c x v
     ·refine callW_ms [.ro, .ro, .ro] ?_
      simp [regR, valV]
      refine callX_of ((w80 c r e x v (hvf v (List.mem_of_getElem? hv)) hc).t hk) (by simp) ?_
      simp [hwi, p2, p3, p5, p6]
      rw [hsn]
      exact ⟨by omega, kindsUp_snoc hV ((fitP_of hxr hd).1 hk)⟩
     ·refine callW_ms [.ro, .ro, .ro] ?_
      simp [regR, valV]
      refine callX_of ((w80 c r e x v (hvf v (List.mem_of_getElem? hv)) hc).f hk) (by simp) ?_
      simp [hwi, p2, p3, p5, p6]
      exact hno j fun h => hk ((fitP_of hxr hd).2 ((hcg.1 h).2 v (List.mem_of_getElem? hv)))
    ·obtain rfl : i = t.2.1.length := by omega
     rw [List.take_of_length_le (by omega)] at hV
     exact ⟨hlt, hw, colsUp_succ.2 ⟨hU, hcg.2 ⟨hvr2, hV⟩⟩⟩
  ·obtain rfl : j = t.1.length := by omega
   exact ⟨⟨hl1, by omega⟩, hcol, hl2, colsUp_all hU⟩
end Go.Proofs.YtehmdblkkpdmoaaT


namespace Go.Proofs.YtehmdblkkpdmoaaT
set_option linter.unusedVariables false
set_option linter.unusedSimpArgs false
open Go
def c9 : TCode := (.seq (.ops [⟨(some 2), 4, .box 3 (.t 0), none, []⟩, ⟨(some 3), 5, .box 4 (.t 1), none, []⟩, ⟨(some 4), 6, .mv (.c (.b false)), none, []⟩])
 (.seq (.seq (.ops [⟨(some 15), 17, .load true 3 (.t 2), none, []⟩, ⟨(some 16), 18, .call 33 [((.t 15), 0)], none, []⟩, ⟨(some 17), 19, .un .not (.t 16), none, []⟩, ⟨(some 18), 20, .mv (.t 17), none, []⟩, ⟨(some 19), 21, .faddr 0 2 (.t 3), (some (18, false)), []⟩, ⟨(some 20), 22, .load true 2 (.t 19), (some (18, false)), []⟩, ⟨(some 21), 23, .call 34 [((.t 20), 0)], (some (18, false)), []⟩, ⟨(some 22), 24, .un .not (.t 21), (some (18, false)), []⟩, ⟨(some 23), 25, .pick (.t 18) (.c (.b true)) (.t 22), none, []⟩, ⟨(some 24), 26, .mv (.t 23), none, []⟩, ⟨(some 25), 27, .faddr 2 1 (.t 3), (some (24, false)), []⟩, ⟨(some 26), 28, .load false 1 (.t 25), (some (24, false)), []⟩, ⟨(some 27), 29, .len false (.t 26), (some (24, false)), []⟩, ⟨(some 28), 30, .bin .gtr (.t 27) (.c (.i .i64 40)), (some (24, false)), []⟩, ⟨(some 29), 31, .pick (.t 24) (.c (.b true)) (.t 28), none, []⟩, ⟨(some 30), 32, .mv (.t 29), none, []⟩, ⟨(some 31), 33, .faddr 3 1 (.t 3), (some (30, false)), []⟩, ⟨(some 32), 34, .load false 1 (.t 31), (some (30, false)), []⟩, ⟨(some 33), 35, .len false (.t 32), (some (30, false)), []⟩, ⟨(some 34), 36, .faddr 1 1 (.t 2), (some (30, false)), []⟩, ⟨(some 35), 37, .load false 1 (.t 34), (some (30, false)), []⟩, ⟨(some 36), 38, .len false (.t 35), (some (30, false)), []⟩, ⟨(some 37), 39, .bin .neq (.t 33) (.t 36), (some (30, false)), []⟩, ⟨(some 38), 40, .pick (.t 30) (.c (.b true)) (.t 37), none, []⟩])
 (.cond (.t 38)
 (.seq (.ops [⟨(some 4), 6, .mv (.c (.b false)), none, []⟩])
 .ret)
 .skip))
 (.seq (.seq (.ops [⟨(some 5), 7, .mv (.c (.i .i64 0)), none, []⟩])
 (.block 0 (.loop (.seq (.seq (.ops [⟨(some 39), 41, .mv (.t 5), none, []⟩, ⟨(some 40), 42, .faddr 3 1 (.t 3), none, []⟩, ⟨(some 41), 43, .load false 1 (.t 40), none, []⟩, ⟨(some 42), 44, .len false (.t 41), none, []⟩, ⟨(some 43), 45, .bin .lss (.t 39) (.t 42), none, []⟩])
 (.cond (.t 43)
 .skip
 (.exit 0)))
 (.seq (.block 1 (.seq (.draw [⟨(some 46), 48, .faddr 3 1 (.t 3), none, []⟩, ⟨(some 47), 49, .load false 1 (.t 46), none, []⟩, ⟨(some 48), 50, .mv (.t 5), none, []⟩, ⟨(some 49), 51, .iaddr 4 (.t 47) (.t 48), none, []⟩, ⟨(some 50), 52, .load true 4 (.t 49), none, []⟩, ⟨(some 51), 53, .call 35 [((.t 50), 0)], none, []⟩, ⟨(some 52), 54, .un .not (.t 51), none, []⟩, ⟨(some 53), 55, .mv (.t 52), none, []⟩, ⟨(some 54), 56, .faddr 3 1 (.t 3), (some (53, false)), []⟩, ⟨(some 55), 57, .load false 1 (.t 54), (some (53, false)), []⟩, ⟨(some 56), 58, .mv (.t 5), (some (53, false)), []⟩, ⟨(some 57), 59, .iaddr 4 (.t 55) (.t 56), (some (53, false)), []⟩, ⟨(some 58), 60, .faddr 0 1 (.t 57), (some (53, false)), []⟩, ⟨(some 59), 61, .load false 1 (.t 58), (some (53, false)), []⟩, ⟨(some 60), 62, .faddr 1 1 (.t 2), (some (53, false)), []⟩, ⟨(some 61), 63, .load false 1 (.t 60), (some (53, false)), []⟩, ⟨(some 62), 64, .mv (.t 5), (some (53, false)), []⟩, ⟨(some 63), 65, .iaddr 2 (.t 61) (.t 62), (some (53, false)), []⟩, ⟨(some 64), 66, .faddr 1 1 (.t 63), (some (53, false)), []⟩, ⟨(some 65), 67, .load false 1 (.t 64), (some (53, false)), []⟩, ⟨(some 66), 68, .bin .neq (.t 59) (.t 65), (some (53, false)), []⟩, ⟨(some 67), 69, .pick (.t 53) (.c (.b true)) (.t 66), none, []⟩])
 (.cond (.t 67)
 (.seq (.ops [⟨(some 4), 6, .mv (.c (.b false)), none, []⟩])
 .ret)
 .skip)))
 (.ops [⟨(some 44), 46, .mv (.t 5), none, []⟩, ⟨(some 45), 47, .bin .add (.t 44) (.c (.i .i64 1)), none, []⟩, ⟨(some 5), 7, .mv (.t 45), none, []⟩]))))))
 (.seq (.ops [⟨(some 68), 70, .faddr 0 2 (.t 3), none, []⟩, ⟨(some 69), 71, .faddr 0 1 (.t 68), none, []⟩, ⟨(some 70), 72, .load false 1 (.t 69), none, []⟩, ⟨(some 71), 73, .len false (.t 70), none, []⟩, ⟨(some 72), 74, .mkslice 1 1 [(.b false)] (.t 71) (.t 71), none, []⟩, ⟨(some 6), 8, .mv (.t 72), none, []⟩])
 (.seq (.ops [⟨(some 73), 75, .faddr 0 2 (.t 3), none, []⟩, ⟨(some 74), 76, .load true 2 (.t 73), none, []⟩, ⟨(some 75), 77, .call 28 [((.t 74), 0)], none, []⟩, ⟨(some 7), 9, .mv (.t 75), none, []⟩])
 (.seq (.seq (.ops [⟨(some 8), 10, .mv (.c (.i .i64 0)), none, []⟩])
 (.block 2 (.loop (.seq (.seq (.ops [⟨(some 76), 78, .mv (.t 8), none, []⟩, ⟨(some 77), 79, .mv (.t 7), none, []⟩, ⟨(some 78), 80, .len false (.t 77), none, []⟩, ⟨(some 79), 81, .bin .lss (.t 76) (.t 78), none, []⟩])
 (.cond (.t 79)
 .skip
 (.exit 2)))
 (.seq (.block 3 (.ops [⟨(some 82), 84, .mv (.t 6), none, []⟩, ⟨(some 83), 85, .mv (.t 7), none, []⟩, ⟨(some 84), 86, .mv (.t 8), none, []⟩, ⟨(some 85), 87, .iaddr 2 (.t 83) (.t 84), none, []⟩, ⟨(some 86), 88, .faddr 0 1 (.t 85), none, []⟩, ⟨(some 87), 89, .load false 1 (.t 86), none, []⟩, ⟨(some 88), 90, .iaddr 1 (.t 82) (.t 87), none, []⟩, ⟨none, 1013007, .store 1 (.t 88) (.c (.b true)), none, []⟩]))
 (.ops [⟨(some 80), 82, .mv (.t 8), none, []⟩, ⟨(some 81), 83, .bin .add (.t 80) (.c (.i .i64 1)), none, []⟩, ⟨(some 8), 10, .mv (.t 81), none, []⟩]))))))
 (.seq (.ops [⟨(some 9), 11, .mv (.c (.i .i64 0)), none, []⟩])
 (.seq (.seq (.ops [⟨(some 10), 12, .mv (.c (.i .i64 0)), none, []⟩])
 (.block 4 (.loop (.seq (.seq (.ops [⟨(some 89), 91, .mv (.t 10), none, []⟩, ⟨(some 90), 92, .faddr 2 1 (.t 3), none, []⟩, ⟨(some 91), 93, .load false 1 (.t 90), none, []⟩, ⟨(some 92), 94, .len false (.t 91), none, []⟩, ⟨(some 93), 95, .bin .lss (.t 89) (.t 92), none, []⟩])
 (.cond (.t 93)
 .skip
 (.exit 4)))
 (.seq (.block 5 (.seq (.ops [⟨(some 96), 98, .faddr 2 1 (.t 3), none, []⟩, ⟨(some 97), 99, .load false 1 (.t 96), none, []⟩, ⟨(some 98), 100, .mv (.t 10), none, []⟩, ⟨(some 99), 101, .iaddr 3 (.t 97) (.t 98), none, []⟩, ⟨(some 100), 102, .load true 3 (.t 99), none, []⟩, ⟨(some 11), 13, .box 3 (.c (.ag [(.sl true 1 []), (.sl true 2 []), (.sl true 1 [])])), none, []⟩, ⟨none, 1018006, .store 3 (.t 11) (.t 100), none, []⟩])
 (.seq (.seq (.ops [⟨(some 101), 103, .load true 3 (.t 2), none, []⟩, ⟨(some 102), 104, .load true 3 (.t 11), none, []⟩, ⟨(some 103), 105, .call 36 [((.t 101), 0), ((.t 102), 0)], none, []⟩, ⟨(some 104), 106, .un .not (.t 103), none, []⟩])
 (.cond (.t 104)
 (.seq (.ops [⟨(some 4), 6, .mv (.c (.b false)), none, []⟩])
 .ret)
 .skip))
 (.seq (.seq (.ops [⟨(some 12), 14, .mv (.c (.i .i64 0)), none, []⟩])
 (.block 6 (.loop (.seq (.seq (.ops [⟨(some 105), 107, .mv (.t 12), none, []⟩, ⟨(some 106), 108, .mv (.t 10), none, []⟩, ⟨(some 107), 109, .bin .lss (.t 105) (.t 106), none, []⟩])
 (.cond (.t 107)
 .skip
 (.exit 6)))
 (.seq (.block 7 (.seq (.draw [⟨(some 110), 112, .faddr 2 1 (.t 3), none, []⟩, ⟨(some 111), 113, .load false 1 (.t 110), none, []⟩, ⟨(some 112), 114, .mv (.t 12), none, []⟩, ⟨(some 113), 115, .iaddr 3 (.t 111) (.t 112), none, []⟩, ⟨(some 114), 116, .faddr 0 1 (.t 113), none, []⟩, ⟨(some 115), 117, .load false 1 (.t 114), none, []⟩, ⟨(some 116), 118, .faddr 0 1 (.t 11), none, []⟩, ⟨(some 117), 119, .load false 1 (.t 116), none, []⟩, ⟨(some 118), 120, .call 37 [((.t 115), 0), ((.t 117), 0)], none, []⟩])
 (.cond (.t 118)
 (.seq (.ops [⟨(some 4), 6, .mv (.c (.b false)), none, []⟩])
 .ret)
 .skip)))
 (.ops [⟨(some 108), 110, .mv (.t 12), none, []⟩, ⟨(some 109), 111, .bin .add (.t 108) (.c (.i .i64 1)), none, []⟩, ⟨(some 12), 14, .mv (.t 109), none, []⟩]))))))
 (.seq (.ops [⟨(some 13), 15, .mv (.c (.i .i64 0)), none, []⟩])
 (.block 8 (.loop (.seq (.seq (.ops [⟨(some 119), 121, .mv (.t 13), none, []⟩, ⟨(some 120), 122, .faddr 1 1 (.t 11), none, []⟩, ⟨(some 121), 123, .load false 1 (.t 120), none, []⟩, ⟨(some 122), 124, .len false (.t 121), none, []⟩, ⟨(some 123), 125, .bin .lss (.t 119) (.t 122), none, []⟩])
 (.cond (.t 123)
 .skip
 (.exit 8)))
 (.seq (.block 9 (.seq (.ops [⟨(some 126), 128, .faddr 1 1 (.t 11), none, []⟩, ⟨(some 127), 129, .load false 1 (.t 126), none, []⟩, ⟨(some 128), 130, .mv (.t 13), none, []⟩, ⟨(some 129), 131, .iaddr 2 (.t 127) (.t 128), none, []⟩, ⟨(some 130), 132, .load true 2 (.t 129), none, []⟩, ⟨(some 14), 16, .box 2 (.c (.ag [(.i .i64 0), (.i .i64 0)])), none, []⟩, ⟨none, 1029006, .store 2 (.t 14) (.t 130), none, []⟩])
 (.seq (.seq (.draw [⟨(some 131), 133, .faddr 0 1 (.t 14), none, []⟩, ⟨(some 132), 134, .load false 1 (.t 131), none, []⟩, ⟨(some 133), 135, .mv (.t 6), none, []⟩, ⟨(some 134), 136, .len false (.t 133), none, []⟩, ⟨(some 135), 137, .bin .sub (.t 134) (.c (.i .i64 1)), none, []⟩, ⟨(some 136), 138, .call 38 [((.t 132), 0), ((.c (.i .i64 0)), 0), ((.t 135), 0)], none, []⟩, ⟨(some 137), 139, .un .not (.t 136), none, []⟩, ⟨(some 138), 140, .mv (.t 137), none, []⟩, ⟨(some 139), 141, .mv (.t 6), (some (138, false)), []⟩, ⟨(some 140), 142, .faddr 0 1 (.t 14), (some (138, false)), []⟩, ⟨(some 141), 143, .load false 1 (.t 140), (some (138, false)), []⟩, ⟨(some 142), 144, .iaddr 1 (.t 139) (.t 141), (some (138, false)), []⟩, ⟨(some 143), 145, .load false 1 (.t 142), (some (138, false)), []⟩, ⟨(some 144), 146, .un .not (.t 143), (some (138, false)), []⟩, ⟨(some 145), 147, .pick (.t 138) (.c (.b true)) (.t 144), none, []⟩, ⟨(some 146), 148, .mv (.t 145), none, []⟩, ⟨(some 147), 149, .faddr 0 2 (.t 3), (some (146, false)), []⟩, ⟨(some 148), 150, .faddr 0 1 (.t 147), (some (146, false)), []⟩, ⟨(some 149), 151, .load false 1 (.t 148), (some (146, false)), []⟩, ⟨(some 150), 152, .faddr 0 1 (.t 14), (some (146, false)), []⟩, ⟨(some 151), 153, .load false 1 (.t 150), (some (146, false)), []⟩, ⟨(some 152), 154, .iaddr 1 (.t 149) (.t 151), (some (146, false)), []⟩, ⟨(some 153), 155, .load false 1 (.t 152), (some (146, false)), []⟩, ⟨(some 154), 156, .faddr 1 1 (.t 14), (some (146, false)), []⟩, ⟨(some 155), 157, .load false 1 (.t 154), (some (146, false)), []⟩, ⟨(some 156), 158, .bin .neq (.t 153) (.t 155), (some (146, false)), []⟩, ⟨(some 157), 159, .pick (.t 146) (.c (.b true)) (.t 156), none, []⟩])
 (.cond (.t 157)
 (.seq (.ops [⟨(some 4), 6, .mv (.c (.b false)), none, []⟩])
 .ret)
 .skip))
 (.seq (.ops [⟨(some 158), 160, .mv (.t 6), none, []⟩, ⟨(some 159), 161, .faddr 0 1 (.t 14), none, []⟩, ⟨(some 160), 162, .load false 1 (.t 159), none, []⟩, ⟨(some 161), 163, .iaddr 1 (.t 158) (.t 160), none, []⟩, ⟨none, 1032004, .store 1 (.t 161) (.c (.b false)), none, []⟩])
 (.ops [⟨(some 162), 164, .mv (.t 9), none, []⟩, ⟨(some 163), 165, .bin .add (.t 162) (.c (.i .i64 1)), none, []⟩, ⟨(some 9), 11, .mv (.t 163), none, []⟩])))))
 (.ops [⟨(some 124), 126, .mv (.t 13), none, []⟩, ⟨(some 125), 127, .bin .add (.t 124) (.c (.i .i64 1)), none, []⟩, ⟨(some 13), 15, .mv (.t 125), none, []⟩]))))))))))
 (.ops [⟨(some 94), 96, .mv (.t 10), none, []⟩, ⟨(some 95), 97, .bin .add (.t 94) (.c (.i .i64 1)), none, []⟩, ⟨(some 10), 12, .mv (.t 95), none, []⟩]))))))
 (.seq (.ops [⟨(some 164), 166, .mv (.t 9), none, []⟩, ⟨(some 165), 167, .mv (.t 7), none, []⟩, ⟨(some 166), 168, .len false (.t 165), none, []⟩, ⟨(some 167), 169, .bin .eql (.t 164) (.t 166), none, []⟩, ⟨(some 4), 6, .mv (.t 167), none, []⟩])
 .ret)))))))))
theorem k9 : compCode Try.prog Try.f9.ntmps Try.f9.body.get! = some c9 := by kernel_rfl
theorem r9 : resTmps Try.prog Try.f9.results.toList = some [.tmp 4] := by kernel_rfl
def c12 : TCode := (.seq (.ops [⟨(some 2), 4, .box 3 (.t 0), none, []⟩, ⟨(some 3), 5, .box 4 (.t 1), none, []⟩, ⟨(some 4), 6, .mv (.c (.b false)), none, []⟩])
 (.seq (.seq (.ops [⟨(some 9), 11, .load true 3 (.t 2), none, []⟩, ⟨(some 10), 12, .call 43 [((.t 9), 0)], none, []⟩, ⟨(some 11), 13, .un .not (.t 10), none, []⟩, ⟨(some 12), 14, .mv (.t 11), none, []⟩, ⟨(some 13), 15, .faddr 0 2 (.t 3), (some (12, false)), []⟩, ⟨(some 14), 16, .load true 2 (.t 13), (some (12, false)), []⟩, ⟨(some 15), 17, .call 44 [((.t 14), 0)], (some (12, false)), []⟩, ⟨(some 16), 18, .un .not (.t 15), (some (12, false)), []⟩, ⟨(some 17), 19, .pick (.t 12) (.c (.b true)) (.t 16), none, []⟩, ⟨(some 18), 20, .mv (.t 17), none, []⟩, ⟨(some 19), 21, .faddr 2 1 (.t 3), (some (18, false)), []⟩, ⟨(some 20), 22, .load false 1 (.t 19), (some (18, false)), []⟩, ⟨(some 21), 23, .len false (.t 20), (some (18, false)), []⟩, ⟨(some 22), 24, .bin .gtr (.t 21) (.c (.i .i64 40)), (some (18, false)), []⟩, ⟨(some 23), 25, .pick (.t 18) (.c (.b true)) (.t 22), none, []⟩, ⟨(some 24), 26, .mv (.t 23), none, []⟩, ⟨(some 25), 27, .faddr 3 1 (.t 3), (some (24, false)), []⟩, ⟨(some 26), 28, .load false 1 (.t 25), (some (24, false)), []⟩, ⟨(some 27), 29, .len false (.t 26), (some (24, false)), []⟩, ⟨(some 28), 30, .faddr 1 1 (.t 2), (some (24, false)), []⟩, ⟨(some 29), 31, .load false 1 (.t 28), (some (24, false)), []⟩, ⟨(some 30), 32, .len false (.t 29), (some (24, false)), []⟩, ⟨(some 31), 33, .bin .neq (.t 27) (.t 30), (some (24, false)), []⟩, ⟨(some 32), 34, .pick (.t 24) (.c (.b true)) (.t 31), none, []⟩])
 (.cond (.t 32)
 (.seq (.ops [⟨(some 4), 6, .mv (.c (.b false)), none, []⟩])
 .ret)
 .skip))
 (.seq (.seq (.ops [⟨(some 33), 35, .faddr 2 1 (.t 3), none, []⟩, ⟨(some 34), 36, .load false 1 (.t 33), none, []⟩, ⟨(some 35), 37, .len false (.t 34), none, []⟩, ⟨(some 36), 38, .mv (.c (.i .i64 0)), none, []⟩])
 (.block 0 (.loop (.seq (.ops [⟨(some 37), 39, .bin .lss (.t 36) (.t 35), none, []⟩])
 (.seq (.cond (.t 37)
 .skip
 (.exit 0))
 (.seq (.block 1 (.seq (.ops [⟨(some 38), 40, .mv (.t 36), none, []⟩, ⟨(some 39), 41, .iaddr 3 (.t 34) (.t 36), none, []⟩, ⟨(some 40), 42, .load true 3 (.t 39), none, []⟩, ⟨(some 6), 8, .box 3 (.c (.ag [(.sl true 1 []), (.sl true 2 []), (.sl true 1 [])])), none, []⟩, ⟨(some 5), 7, .mv (.t 38), none, []⟩, ⟨none, 1005005, .store 3 (.t 6) (.t 40), none, []⟩])
 (.seq (.ops [⟨(some 41), 43, .load true 3 (.t 6), none, []⟩, ⟨(some 42), 44, .call 45 [((.t 2), 3), ((.t 41), 0)], none, []⟩, ⟨(some 43), 45, .un .not (.t 42), none, []⟩, ⟨(some 44), 46, .mv (.t 43), none, []⟩, ⟨(some 45), 47, .faddr 0 1 (.t 6), (some (44, false)), []⟩, ⟨(some 46), 48, .load false 1 (.t 45), (some (44, false)), []⟩, ⟨(some 47), 49, .call 46 [((.t 3), 0), ((.t 46), 0)], (some (44, false)), []⟩, ⟨(some 48), 50, .mv (.t 5), (some (44, false)), []⟩, ⟨(some 49), 51, .bin .neq (.t 47) (.t 48), (some (44, false)), []⟩, ⟨(some 50), 52, .pick (.t 44) (.c (.b true)) (.t 49), none, []⟩])
 (.cond (.t 50)
 (.seq (.ops [⟨(some 4), 6, .mv (.c (.b false)), none, []⟩])
 .ret)
 .skip))))
 (.ops [⟨(some 51), 53, .bin .add (.t 36) (.c (.i .i64 1)), none, []⟩, ⟨(some 36), 38, .mv (.t 51), none, []⟩])))))))
 (.seq (.seq (.ops [⟨(some 52), 54, .faddr 3 1 (.t 3), none, []⟩, ⟨(some 53), 55, .load false 1 (.t 52), none, []⟩, ⟨(some 54), 56, .len false (.t 53), none, []⟩, ⟨(some 55), 57, .mv (.c (.i .i64 0)), none, []⟩])
 (.block 2 (.loop (.seq (.ops [⟨(some 56), 58, .bin .lss (.t 55) (.t 54), none, []⟩])
 (.seq (.cond (.t 56)
 .skip
 (.exit 2))
 (.seq (.block 3 (.seq (.ops [⟨(some 57), 59, .mv (.t 55), none, []⟩, ⟨(some 58), 60, .iaddr 4 (.t 53) (.t 55), none, []⟩, ⟨(some 59), 61, .load true 4 (.t 58), none, []⟩, ⟨(some 8), 10, .box 4 (.c (.ag [(.i .i64 0), (.i .i64 0), (.f 0), (.f 0)])), none, []⟩, ⟨(some 7), 9, .mv (.t 57), none, []⟩, ⟨none, 1011005, .store 4 (.t 8) (.t 59), none, []⟩])
 (.seq (.draw [⟨(some 60), 62, .load true 4 (.t 8), none, []⟩, ⟨(some 61), 63, .faddr 1 1 (.t 2), none, []⟩, ⟨(some 62), 64, .load false 1 (.t 61), none, []⟩, ⟨(some 63), 65, .mv (.t 7), none, []⟩, ⟨(some 64), 66, .iaddr 2 (.t 62) (.t 63), none, []⟩, ⟨(some 65), 67, .faddr 1 1 (.t 64), none, []⟩, ⟨(some 66), 68, .load false 1 (.t 65), none, []⟩, ⟨(some 67), 69, .call 47 [((.t 60), 0), ((.t 66), 0)], none, []⟩, ⟨(some 68), 70, .un .not (.t 67), none, []⟩])
 (.cond (.t 68)
 (.seq (.ops [⟨(some 4), 6, .mv (.c (.b false)), none, []⟩])
 .ret)
 .skip))))
 (.ops [⟨(some 69), 71, .bin .add (.t 55) (.c (.i .i64 1)), none, []⟩, ⟨(some 55), 57, .mv (.t 69), none, []⟩])))))))
 (.seq (.ops [⟨(some 70), 72, .load true 4 (.t 3), none, []⟩, ⟨(some 71), 73, .call 48 [((.t 70), 0)], none, []⟩, ⟨(some 4), 6, .mv (.t 71), none, []⟩])
 .ret)))))
theorem k12 : compCode Try.prog Try.f12.ntmps Try.f12.body.get! = some c12 := by kernel_rfl
theorem r12 : resTmps Try.prog Try.f12.results.toList = some [.tmp 4] := by kernel_rfl
theorem idxP_iff {α : Type} {p : α → Bool} {l : List α} {x : α} {j : Nat} (h : l[j]? = some x) (hp : p x = true) : idxP p l = j ↔ ∀ y ∈ l.take j, p y = false := by
 refine ⟨fun hi => ?_, fun hn => idxP_at h hp hn⟩
 unfold idxP at hi
 split at hi
 ·rename_i i he
  have hij : i = j := by omega
  subst hij
  rw [List.findIdx?_eq_some_iff_getElem] at he
  obtain ⟨hlt, -, hk⟩ := he
  intro y hy
  obtain ⟨k, hk1, rfl⟩ := List.mem_iff_getElem.1 hy
  rw [List.length_take] at hk1
  have := hk k (by omega)
  simpa using this
 ·omega
def isT (cols : List Int) (t : TableP) : Bool := decide (t.1 = cols)
def noT (cols : List Int) (ts : List TableP) : Prop := ∀ y ∈ ts, isT cols y = false
theorem noT_nil (cols : List Int) : noT cols [] := fun _ h => by cases h
theorem noT_snoc {cols : List Int} {ts : List TableP} {t : TableP} (h : noT cols ts) (ht : isT cols t = false) : noT cols (ts ++ [t]) := fun x hx => by
 rcases List.mem_append.1 hx with hx | hx
 ·exact h x hx
 ·rw [List.mem_singleton.1 hx]; exact ht
def tabIx (ts : List TableP) (cols : List Int) : Int := idxP (isT cols) ts
theorem w46 (w : WorldP) (cols : List Int) (h : okW w) (hc : cols.length ≤ 2^40) : Contract Try.prog false 46 [.ro, .ro] [.po false [.sl false 1 (w.1.map iT), .sl false 1 (w.2.1.map iT), .sl false 3 (w.2.2.1.map tbT), .sl false 4 (w.2.2.2.map vT)], .sl false 1 (cols.map iT)] [.i .i64 (tabIx w.2.2.1 cols)] [] := by
 refine mk_contract [] Try.func46 (c := Try.f46.body.get!) (by kernel_rfl) k46 r46 (of_decide_eq_true rfl) fun _ => ?_
 obtain ⟨h1, h2, ⟨h3, h4⟩, h5⟩ := h
 obtain ⟨g, f, ts, rs⟩ := w
 simp only at h1 h2 h3 h4 h5 ⊢
 unfold c46; simp
 refine twp_for ts.length (fun j s => s.t 0 = .po false [.sl false 1 (g.map iT), .sl false 1 (f.map iT), .sl false 3 (ts.map tbT), .sl false 4 (rs.map vT)] ∧ s.t 1 = .sl false 1 (cols.map iT) ∧ s.t 10 = .i .i64 ts.length ∧ s.t 11 = .i .i64 j ∧ noT cols (ts.take j) ∧ s.H = lk [(1, [])]) [] (by simp) ?_ ?_
 ·simp [noT_nil]
 ·rintro j s hj ⟨q0, q1, q10, q11, hn, qH⟩
  rw [nf_of qH]
  simp [q0, q1, q10, q11]
  refine ⟨fun hlt => ?_, fun hge => ?_⟩
  ·have hw : IntKind.i64.wrap (j + 1) = j + 1 := wrap_id (by omega) (by omega)
   obtain ⟨t, ht⟩ := get_some hlt
   have hm := List.mem_of_getElem? ht
   have hsn := take_snoc ht
   simp [ht, hw, q0, q1, q10, q11]
   by_cases hq : t.1 = cols
   ·refine callW_ms [.ro, .ro] ?_
    simp
    refine callX_of ((w90 t.1 cols (by have := (h4 t hm).1; omega) hc).t hq) (by simp) ?_
    simp [hw, q0, q1, q10, q11]
    exact (idxP_at ht (by simp [isT, hq]) hn).symm
   ·refine callW_ms [.ro, .ro] ?_
    simp
    refine callX_of ((w90 t.1 cols (by have := (h4 t hm).1; omega) hc).f hq) (by simp) ?_
    simp [hw, q0, q1, q10, q11]
    rw [hsn]
    exact ⟨hlt, noT_snoc hn (by simp [isT, hq])⟩
  ·obtain rfl : j = ts.length := by omega
   rw [List.take_of_length_le (Nat.le_refl _)] at hn
   exact (idxP_none hn).symm
def resP (r : DeclsP) (rs : List ValP) : Prop := ∀ (i : Nat) (v : ValP) (d : ByteArray × Int), rs[i]? = some v → r[i]? = some d → ofK d.2 v
def resUp (r : DeclsP) (rs : List ValP) (j : Nat) : Prop := ∀ (i : Nat) (v : ValP) (d : ByteArray × Int), i < j → rs[i]? = some v → r[i]? = some d → ofK d.2 v
theorem resUp_zero (r : DeclsP) (rs : List ValP) : resUp r rs 0 := fun i v d h => by omega
theorem resUp_succ {r : DeclsP} {rs : List ValP} {j : Nat} {v : ValP} {d : ByteArray × Int} (hv : rs[j]? = some v) (hd : r[j]? = some d) : resUp r rs (j + 1) ↔ resUp r rs j ∧ ofK d.2 v := by
 constructor
 ·intro h; exact ⟨fun i v d hi => h i v d (by omega), h j v d (by omega) hv hd⟩
 ·rintro ⟨h1, h2⟩ i v' d' hi hv' hd'
  by_cases hij : i = j
  ·subst hij; rw [hv] at hv'; rw [hd] at hd'; cases hv'; cases hd'; exact h2
  ·exact h1 i v' d' (by omega) hv' hd'
theorem resUp_all {r : DeclsP} {rs : List ValP} : resUp r rs rs.length ↔ resP r rs :=
 ⟨fun h i v d hv => h i v d (List.getElem?_eq_some_iff.1 hv).1 hv, fun h i v d _ => h i v d⟩
def WorldOkP (c r e : DeclsP) (w : WorldP) : Prop := (RegOkP c r e ∧ EntsOkP w.1 w.2.1 ∧ w.2.2.1.length ≤ 40 ∧ w.2.2.2.length = r.length) ∧ resP r w.2.2.2 ∧ (∀ t ∈ w.2.2.1, tabP c t) ∧ (w.2.2.1.map (·.1)).Nodup ∧ rowsP w.1 w.2.1 (flatR w.2.2.1)
noncomputable instance (c r e : DeclsP) (w : WorldP) : Decidable (WorldOkP c r e w) := Classical.propDecidable _
def tabsUp (c : DeclsP) (ts : List TableP) : Prop := (∀ t ∈ ts, tabP c t) ∧ (ts.map (·.1)).Nodup
theorem tabsUp_nil (c : DeclsP) : tabsUp c [] := ⟨by simp, by simp⟩
theorem tabsUp_snoc {c : DeclsP} {ts : List TableP} {t : TableP} : tabsUp c (ts ++ [t]) ↔ tabsUp c ts ∧ tabP c t ∧ noT t.1 ts := by
 unfold tabsUp noT isT
 constructor
 ·rintro ⟨h1, h2⟩
  rw [List.map_append] at h2
  have h3 := List.nodup_append.1 h2
  refine ⟨⟨fun x hx => h1 x (by simp [hx]), h3.1⟩, h1 t (by simp), fun y hy => ?_⟩
  have := h3.2.2 y.1 (List.mem_map_of_mem hy) t.1 (by simp)
  simpa using this
 ·rintro ⟨⟨h1, h2⟩, h3, h4⟩
  refine ⟨fun x hx => ?_, ?_⟩
  ·rcases List.mem_append.1 hx with hx | hx
   ·exact h1 x hx
   ·rw [List.mem_singleton.1 hx]; exact h3
  ·rw [List.map_append]
   refine List.nodup_append.2 ⟨h2, by simp, fun x hx y hy => ?_⟩
   obtain ⟨z, hz, rfl⟩ := List.mem_map.1 hx
   simp at hy; subst hy
   have := h4 z hz
   simpa using this
theorem tabsUp_take {c : DeclsP} {ts : List TableP} (h : tabsUp c ts) (j : Nat) : tabsUp c (ts.take j) :=
 ⟨fun t ht => h.1 t (List.mem_of_mem_take ht), by rw [List.map_take]; exact h.2.sublist (List.take_sublist _ _)⟩
set_option maxHeartbeats 1000000 in
set_option maxRecDepth 100000 in
theorem w12 (c r e : DeclsP) (w : WorldP) (h : okW w) (hc : c.length ≤ 2^40) (hr : r.length ≤ 2^40) (he : e.length ≤ 2^40) (hs : ∀ l ∈ [c, r, e], ∀ d ∈ l, d.1.size ≤ 2^40) : Contract Try.prog false 12 [.ro, .ro] [regR c r e, worldR w.1 w.2.1 w.2.2.1 w.2.2.2] [.b (decide (WorldOkP c r e w))] [] := by
 refine mk_contract [] Try.func12 (c := Try.f12.body.get!) (by kernel_rfl) k12 r12 (of_decide_eq_true rfl) fun _ => ?_
 have hR := fun hE => w48 w h hE
 have hT := fun cols hc => w46 w cols h hc
 obtain ⟨h1, h2, ⟨h3, h4⟩, h5⟩ := h
 obtain ⟨g, f, ts, rs⟩ := w
 simp only at h1 h2 h3 h4 h5 hR hT ⊢
 unfold c12; unfold regR; simp
 by_cases hreg : RegOkP c r e
 rotate_left
 ·refine callW_ms [.ro] ?_
  simp [regR]
  refine callX_of ((w43 c r e hc hr he hs).f hreg) (by simp) ?_
  simp
  exact fun h => hreg h.1.1
 refine callW_ms [.ro] ?_
 simp [regR]
 refine callX_of ((w43 c r e hc hr he hs).t hreg) (by simp) ?_
 simp
 by_cases hent : EntsOkP g f
 rotate_left
 ·refine callW_ms [.ro] ?_
  simp [entsR]
  refine callX_of ((w44 g f (by omega) (by omega)).f hent) (by simp) ?_
  simp
  exact fun h => hent h.1.2.1
 refine callW_ms [.ro] ?_
 simp [entsR]
 refine callX_of ((w44 g f (by omega) (by omega)).t hent) (by simp) ?_
 simp
 cases hb1 : decide ((40 : Int) < (ts.length : Int))
 rotate_left
 ·have : (40 : Int) < ts.length := of_decide_eq_true hb1
  have hno : ¬ WorldOkP c r e (g, f, ts, rs) := fun h => by have := h.1.2.2.1; simp only at this; omega
  simp [hb1, hno]
 have hl1 : ts.length ≤ 40 := by have := of_decide_eq_false hb1; omega
 simp [hb1]
 refine ⟨fun hl2 => ?_, fun hl2 => ?_⟩
 rotate_left
 ·have : ¬ rs.length = r.length := by omega
  exact fun h => this h.1.2.2.2
 have hl3 : rs.length = r.length := by omega
 have hnoT : ∀ j, ¬ tabsUp c (ts.take j) → ¬ WorldOkP c r e (g, f, ts, rs) := fun j h h2 => h (tabsUp_take ⟨h2.2.2.1, h2.2.2.2.1⟩ j)
 refine twp_for ts.length (fun j s => s.t 2 = .pt [(4, 0)] 0 0 ∧ s.t 3 = .pt [(5, 0)] 0 0 ∧ s.t 34 = .sl false 3 (ts.map tbT) ∧ s.t 35 = .i .i64 ts.length ∧ s.t 36 = .i .i64 j ∧ tabsUp c (ts.take j) ∧ s.H = lk [(1, []), (4, [.po true [.sl false 2 (c.map dT), .sl false 2 (r.map dT), .sl false 2 (e.map dT)]]), (5, [.po true [.sl false 1 (g.map iT), .sl false 1 (f.map iT), .sl false 3 (ts.map tbT), .sl false 4 (rs.map vT)]])]) [8] (by simp) ?_ ?_
 ·simp [tabsUp_nil]
 ·rintro j s hj ⟨q2, q3, q34, q35, q36, hU, qH⟩
  rw [nf_of qH]
  simp [q2, q3, q34, q35, q36]
  refine ⟨fun hlt => ?_, fun hge => ?_⟩
  ·have hw : IntKind.i64.wrap (j + 1) = j + 1 := wrap_id (by omega) (by omega)
   obtain ⟨t, ht⟩ := get_some hlt
   have hm := List.mem_of_getElem? ht
   have hsn := take_snoc ht
   have htk := h4 t hm
   have hno := hnoT (j + 1)
   rw [hsn, tabsUp_snoc] at hno
   simp [ht, hw, q2, q3, q34, q35, q36]
   by_cases htp : tabP c t
   rotate_left
   ·refine callW_ms [.ro, .ro] ?_
    simp
    refine callX_of ((w45 c r e t htk hc).f htp) (by simp) ?_
    simp [hw, q2, q3, q34, q35, q36]
    exact hno fun h => htp h.2.1
   refine callW_ms [.ro, .ro] ?_
   simp
   refine callX_of ((w45 c r e t htk hc).t htp) (by simp) ?_
   simp [hw, q2, q3, q34, q35, q36]
   refine callW_ms [.ro, .ro] ?_
   simp
   refine callX_of (hT t.1 (by have := htk.1; omega)) (by simp) ?_
   have hix := idxP_iff (p := isT t.1) ht (by simp [isT])
   have hiy : tabIx ts t.1 = j ↔ noT t.1 (ts.take j) := hix
   by_cases hi : tabIx ts t.1 = j
   ·simp [hi, hw, q2, q3, q34, q35, q36]
    rw [hsn]
    exact ⟨hlt, tabsUp_snoc.2 ⟨hU, htp, hiy.1 hi⟩⟩
   ·simp [hi, hw, q2, q3, q34, q35, q36]
    exact hno fun h => hi (hiy.2 h.2.2)
  ·obtain rfl : j = ts.length := by omega
   rw [List.take_of_length_le (Nat.le_refl _)] at hU
   simp [q2, q3, q34, q35, q36]
   refine twp_for rs.length (fun j s => s.t 2 = .pt [(4, 0)] 0 0 ∧ s.t 3 = .pt [(5, 0)] 0 0 ∧ s.t 53 = .sl false 4 (rs.map vT) ∧ s.t 54 = .i .i64 rs.length ∧ s.t 55 = .i .i64 j ∧ resUp r rs j ∧ s.H = lk [(1, []), (4, [.po true [.sl false 2 (c.map dT), .sl false 2 (r.map dT), .sl false 2 (e.map dT)]]), (5, [.po true [.sl false 1 (g.map iT), .sl false 1 (f.map iT), .sl false 3 (ts.map tbT), .sl false 4 (rs.map vT)]])]) [10] (by simp) ?_ ?_
   ·simp [q2, q3, resUp_zero]
   ·rintro j s hj ⟨q2, q3, q53, q54, q55, hV, qH⟩
    rw [nf_of qH]
    simp [q2, q3, q53, q54, q55]
    refine ⟨fun hlt => ?_, fun hge => ?_⟩
    ·have hw : IntKind.i64.wrap (j + 1) = j + 1 := wrap_id (by omega) (by omega)
     obtain ⟨v, hv⟩ := get_some hlt
     obtain ⟨d, hd⟩ := get_some (show j < r.length by omega)
     simp [hv, hd, hw, q2, q3, q53, q54, q55]
     by_cases hk : ofK d.2 v
     ·refine callW_ms [.ro, .ro] ?_
      simp [valV]
      refine callX_of ((w47 v d.2).t hk) (by simp) ?_
      simp [hw, q2, q3, q53, q54, q55]
      exact ⟨hlt, (resUp_succ hv hd).2 ⟨hV, hk⟩⟩
     ·refine callW_ms [.ro, .ro] ?_
      simp [valV]
      refine callX_of ((w47 v d.2).f hk) (by simp) ?_
      simp [hw, q2, q3, q53, q54, q55]
      exact fun h => hk (h.2.1 j v d hv hd)
    ·obtain rfl : j = rs.length := by omega
     simp [q2, q3, q53, q54, q55]
     refine callW_ms [.ro] ?_
     simp
     refine callX_of (hR hent.2.1) (by simp [worldR]) ?_
     simp [q2, q3, q53, q54, q55]
     exact ⟨fun h => ⟨⟨hreg, hent, hl1, hl3⟩, resUp_all.1 hV, hU.1, hU.2, h⟩, fun h => h.2.2.2.2⟩
end Go.Proofs.YtehmdblkkpdmoaaT


namespace Go.Proofs.YtehmdblkkpdmoaaT
set_option linter.unusedVariables false
set_option linter.unusedSimpArgs false
open Go
theorem colsP_len {l : List Int} {n : Nat} (h : colsP l n) : l.length ≤ n :=
 len_le_of_nodup n l (fun x hx => by have := h.1 x hx; omega) (h.2.imp fun h => by omega)
theorem WorldOkP_stab {c r e : DeclsP} {w : WorldP} (h : WorldOkP c r e w) : ∀ t ∈ w.2.2.1, stabP c t := by
 intro t ht
 have hc := h.1.1.1.1
 have ht2 := h.2.2.1 t ht
 have hl := colsP_len ht2.1
 have hg := rowsG_len h.2.2.2.2.1
 have hG := h.1.2.1.2.2
 have hs : t.2.1.length ≤ (flatR w.2.2.1).length := by
  obtain ⟨j, hj⟩ := List.mem_iff_getElem?.1 ht
  obtain ⟨rest, hr⟩ := flatR_pre hj t.2.1.length
  rw [hr, List.take_of_length_le (Nat.le_refl _)]
  simp; omega
 exact ⟨⟨by omega, by omega⟩, ht2⟩
theorem countP_lt (f : List Int) (n : Nat) : f.countP (fun x => decide (x < ((n + 1 : Nat) : Int))) = f.countP (fun x => decide (x < (n : Int))) + f.count (n : Int) := by
 induction f with
 | nil => rfl
 | cons a l ih =>
  simp only [List.countP_cons, List.count_cons, ih, decide_eq_true_eq, beq_iff_eq]
  by_cases h1 : a < (n : Int)
  ·rw [if_pos (show a < ((n + 1 : Nat) : Int) by omega), if_pos h1, if_neg (show ¬ a = (n : Int) by omega)]; omega
  ·by_cases h3 : a = (n : Int)
   ·rw [if_pos (show a < ((n + 1 : Nat) : Int) by omega), if_neg h1, if_pos h3]; omega
   ·rw [if_neg (show ¬ a < ((n + 1 : Nat) : Int) by omega), if_neg h1, if_neg h3]; omega
theorem liveG_cnt (g : List Int) {f : List Int} (hf : f.Nodup) (n : Nat) (h0 : ∀ x ∈ f, 0 ≤ x) : (liveG g f n).length + f.countP (fun x => decide (x < (n : Int))) = n := by
 induction n with
 | zero =>
  have : f.countP (fun x => decide (x < ((0 : Nat) : Int))) = 0 := List.countP_eq_zero.2 fun x hx => by have := h0 x hx; simp; omega
  rw [this]; rfl
 | succ n ih =>
  rw [countP_lt, hf.count]
  simp only [liveG, List.length_append]
  split <;> simp <;> omega
theorem live_len {g f : List Int} (h : freeOk g.length f) : (liveG g f g.length).length + f.length = g.length := by
 have := liveG_cnt g h.2 g.length fun x hx => (h.1 x hx).1
 have h2 : f.countP (fun x => decide (x < (g.length : Int))) = f.length := List.countP_eq_length.2 fun x hx => by have := (h.1 x hx).2; simpa using this
 omega
theorem live_mem (g f : List Int) (n : Nat) (x : Int) : x ∈ atsR (liveG g f n) ↔ (0 ≤ x ∧ x < n) ∧ x ∉ f := by
 induction n with
 | zero => simp [liveG, atsR]; omega
 | succ n ih =>
  unfold atsR at ih ⊢
  simp only [liveG, List.map_append, List.mem_append, ih]
  by_cases h : (n : Int) ∈ f
  ·simp only [if_pos h, List.map_nil, List.not_mem_nil, or_false]
   constructor
   ·rintro ⟨h1, h2⟩; exact ⟨⟨h1.1, by omega⟩, h2⟩
   ·rintro ⟨h1, h2⟩
    refine ⟨⟨h1.1, ?_⟩, h2⟩
    have : x ≠ n := by rintro rfl; exact h2 h
    omega
  ·simp only [if_neg h, List.map_cons, List.map_nil, List.mem_singleton]
   constructor
   ·rintro (⟨h1, h2⟩ | rfl)
    ·exact ⟨⟨h1.1, by omega⟩, h2⟩
    ·exact ⟨⟨by omega, by omega⟩, h⟩
   ·rintro ⟨h1, h2⟩
    by_cases hx : x = n
    ·exact .inr hx
    ·exact .inl ⟨⟨h1.1, by omega⟩, h2⟩
def leftL (n : Nat) (L B : List Int) : List Bool := (List.range n).map fun (i : Nat) => decide ((i : Int) ∈ L ∧ (i : Int) ∉ B)
@[simp] theorem leftL_len (n : Nat) (L B : List Int) : (leftL n L B).length = n := by simp [leftL]
theorem leftL_get {n : Nat} {L B : List Int} {x : Int} (h0 : 0 ≤ x) (h1 : x < n) : (leftL n L B)[x.toNat]? = some (decide (x ∈ L ∧ x ∉ B)) := by
 have h : x.toNat < n := by omega
 simp [leftL, h, Int.toNat_of_nonneg h0]
theorem leftL_nil (n : Nat) (L : List Int) : leftL n L [] = freeL n L := by simp [leftL, freeL]
theorem leftL_set {n : Nat} {L B : List Int} {x : Int} (h0 : 0 ≤ x) (h1 : x < n) : (leftL n L B).set x.toNat false = leftL n L (B ++ [x]) := by
 have h : x.toNat < n := by omega
 apply List.ext_getElem?
 intro i
 rw [List.getElem?_set]
 simp only [leftL, List.getElem?_map]
 by_cases hi : i < n
 ·by_cases hx : x.toNat = i
  ·subst hx; simp [h, Int.toNat_of_nonneg h0]
  ·have : (i : Int) ≠ x := by omega
   simp [hx, hi, this]
 ·have : ¬ x.toNat = i := by omega
  simp [hi, this]
theorem leftL_map {n : Nat} {L B : List Int} {x : Int} (h0 : 0 ≤ x) (h1 : x < n) : ((leftL n L B).map bT).set x.toNat [.b false] = (leftL n L (B ++ [x])).map bT := by
 rw [← leftL_set h0 h1]; simp
theorem freeL_map {n : Nat} {L : List Int} {x : Int} (h0 : 0 ≤ x) (h1 : x < n) : ((freeL n L).map bT).set x.toNat [.b true] = (freeL n (L ++ [x])).map bT := by
 rw [← freeL_set h0 h1]; simp
set_option maxHeartbeats 2000000 in
set_option maxRecDepth 100000 in
theorem w9 (c r e : DeclsP) (w : WorldP) (h : okW w) (hc : c.length ≤ 2^40) (hr : r.length ≤ 2^40) (he : e.length ≤ 2^40) (hf1 : ∀ t ∈ w.2.2.1, ∀ vs ∈ t.2.2, valsF vs) (hf2 : valsF w.2.2.2) : Contract Try.prog false 9 [.ro, .ro] [regR c r e, worldR w.1 w.2.1 w.2.2.1 w.2.2.2] [.b (decide (WorldOkP c r e w))] [] := by
 refine mk_contract [] Try.func9 (c := Try.f9.body.get!) (by kernel_rfl) k9 r9 (of_decide_eq_true rfl) fun _ => ?_
 have hST := WorldOkP_stab (c := c) (r := r) (e := e) (w := w)
 obtain ⟨h1, h2, ⟨h3, h4⟩, h5⟩ := h
 obtain ⟨g, f, ts, rs⟩ := w
 simp only at h1 h2 h3 h4 h5 hf1 hf2 hST ⊢
 unfold c9; unfold regR; simp
 by_cases hreg : RegOkP c r e
 rotate_left
 ·refine callW_ms [.ro] ?_
  simp [regR]
  refine callX_of ((w33 c r e hc hr he).f hreg) (by simp) ?_
  simp
  exact fun h => hreg h.1.1
 refine callW_ms [.ro] ?_
 simp [regR]
 refine callX_of ((w33 c r e hc hr he).t hreg) (by simp) ?_
 simp
 by_cases hent : EntsOkP g f
 rotate_left
 ·refine callW_ms [.ro] ?_
  simp [entsR]
  refine callX_of ((w34 g f (by omega) (by omega)).f hent) (by simp) ?_
  simp
  exact fun h => hent h.1.2.1
 refine callW_ms [.ro] ?_
 simp [entsR]
 refine callX_of ((w34 g f (by omega) (by omega)).t hent) (by simp) ?_
 simp
 cases hb1 : decide ((40 : Int) < (ts.length : Int))
 rotate_left
 ·have : (40 : Int) < ts.length := of_decide_eq_true hb1
  have hno : ¬ WorldOkP c r e (g, f, ts, rs) := fun h => by have := h.1.2.2.1; simp only at this; omega
  simp [hb1, hno]
 have hl1 : ts.length ≤ 40 := by have := of_decide_eq_false hb1; omega
 simp [hb1]
 refine ⟨fun hl2 => ?_, fun hl2 => ?_⟩
 rotate_left
 ·have : ¬ rs.length = r.length := by omega
  exact fun h => this h.1.2.2.2
 have hl3 : rs.length = r.length := by omega
 have hnoT : ∀ j, ¬ tabsUp c (ts.take j) → ¬ WorldOkP c r e (g, f, ts, rs) := fun j h h2 => h (tabsUp_take ⟨h2.2.2.1, h2.2.2.2.1⟩ j)
 refine twp_for rs.length (fun j s => s.t 2 = .pt [(4, 0)] 0 0 ∧ s.t 3 = .pt [(5, 0)] 0 0 ∧ s.t 5 = .i .i64 j ∧ resUp r rs j ∧ s.H = lk [(1, []), (4, [.po true [.sl false 2 (c.map dT), .sl false 2 (r.map dT), .sl false 2 (e.map dT)]]), (5, [.po true [.sl false 1 (g.map iT), .sl false 1 (f.map iT), .sl false 3 (ts.map tbT), .sl false 4 (rs.map vT)]])]) [] (by simp) ?_ ?_
 ·simp [resUp_zero]
 ·rintro j s hj ⟨q2, q3, q5, hV, qH⟩
  rw [nf_of qH]
  simp [q2, q3, q5]
  refine ⟨fun hlt => ?_, fun hge => ?_⟩
  ·have hw : IntKind.i64.wrap (j + 1) = j + 1 := wrap_id (by omega) (by omega)
   obtain ⟨v, hv⟩ := get_some hlt
   obtain ⟨d, hd⟩ := get_some (show j < r.length by omega)
   have hvf := hf2 v (List.mem_of_getElem? hv)
   have hno : ¬ ofK d.2 v → ¬ WorldOkP c r e (g, f, ts, rs) := fun hk h => hk (h.2.1 j v d hv hd)
   simp [hv, hd, hw, q2, q3, q5]
   by_cases hok : ValOkP v
   rotate_left
   ·refine callW_ms [.ro] ?_
    simp [valV]
    refine callX_of ((w35 v hvf).f hok) (by simp) ?_
    simp [hw, q2, q3, q5]
    exact hno fun h => hok h.2
   refine callW_ms [.ro] ?_
   simp [valV]
   refine callX_of ((w35 v hvf).t hok) (by simp) ?_
   simp [hv, hd, hw, q2, q3, q5]
   exact ⟨fun hk => ⟨hlt, (resUp_succ hv hd).2 ⟨hV, ⟨hk, hok⟩⟩⟩, fun hk => hno fun h => hk h.1⟩
  ·obtain rfl : j = rs.length := by omega
   have hlen := live_len hent.2.1
   have hmem := live_mem g f g.length
   simp [q2, q3, q5]
   refine ⟨by omega, ?_⟩
   have hE := w28 g f (by omega) (by omega)
   rw [show entListF g f = liveG g f g.length from if_pos hent] at hE
   obtain ⟨L, hL⟩ : ∃ L, L = liveG g f g.length := ⟨_, rfl⟩
   rw [← hL] at hE hlen hmem
   have hgl := hent.2.2
   refine callW_ms [.ro] ?_
   simp
   refine callX_of hE (by simp [entsR]) ?_
   simp [q2, q3, q5]
   refine twp_for L.length (fun j s => s.t 2 = .pt [(4, 0)] 0 0 ∧ s.t 3 = .pt [(5, 0)] 0 0 ∧ s.t 6 = .rf [(74, 0)] 0 g.length ∧ s.t 7 = .rf [(77, 0)] 0 L.length ∧ s.t 8 = .i .i64 j ∧ s.H = lk [(1, []), (4, [.po true [.sl false 2 (c.map dT), .sl false 2 (r.map dT), .sl false 2 (e.map dT)]]), (5, [.po true [.sl false 1 (g.map iT), .sl false 1 (f.map iT), .sl false 3 (ts.map tbT), .sl false 4 (rs.map vT)]]), (74, [.sl true 1 ((freeL g.length (atsR (L.take j))).map bT)]), (77, [.sl true 2 (L.map eT)])]) [] (by simp) ?_ ?_
   ·simp [q2, q3, atsR_nil]
   ·rintro j s hj ⟨q2, q3, q6, q7, q8, qH⟩
    rw [nf_of qH]
    simp [q2, q3, q6, q7, q8]
    refine ⟨fun hlt => ?_, fun hge => ?_⟩
    ·have hw : IntKind.i64.wrap (j + 1) = j + 1 := wrap_id (by omega) (by omega)
     obtain ⟨x, hx⟩ := get_some hlt
     have hsn := take_snoc hx
     have hxm := (hmem x.1).1 (List.mem_map_of_mem (f := (·.1)) (List.mem_of_getElem? hx))
     have hx0 := hxm.1.1
     have hset := freeL_map (n := g.length) (L := atsR (L.take j)) hx0 hxm.1.2
     rw [← atsR_snoc, ← hsn] at hset
     have hgf := freeL_get (n := g.length) (f := atsR (L.take j)) hx0 hxm.1.2
     simp [hx, hx0, hgf, hset, hw, q2, q3, q6, q7, q8]
     exact ⟨hlt, hxm.1.2, hlt⟩
    ·obtain rfl : j = L.length := by omega
     rw [List.take_of_length_le (Nat.le_refl _), ← leftL_nil] at qH
     rw [nf_of qH]
     simp [q2, q3, q6, q7, q8]
     refine twp_for ts.length (fun j s => s.t 2 = .pt [(4, 0)] 0 0 ∧ s.t 3 = .pt [(5, 0)] 0 0 ∧ s.t 6 = .rf [(74, 0)] 0 g.length ∧ s.t 7 = .rf [(77, 0)] 0 L.length ∧ s.t 9 = .i .i64 (flatR (ts.take j)).length ∧ s.t 10 = .i .i64 j ∧ tabsUp c (ts.take j) ∧ rowsG g f (flatR (ts.take j)) ∧ s.H = lk [(1, []), (4, [.po true [.sl false 2 (c.map dT), .sl false 2 (r.map dT), .sl false 2 (e.map dT)]]), (5, [.po true [.sl false 1 (g.map iT), .sl false 1 (f.map iT), .sl false 3 (ts.map tbT), .sl false 4 (rs.map vT)]]), (74, [.sl true 1 ((leftL g.length (atsR L) (atsR (flatR (ts.take j)))).map bT)]), (77, [.sl true 2 (L.map eT)])]) [13, 16] (by simp) ?_ ?_
     ·simp [q2, q3, q6, q7, flatR_nil, atsR_nil, tabsUp_nil, rowsG_nil, leftL_nil]
     ·rintro j s hj ⟨q2, q3, q6, q7, q9, q10, hU, hG, qH⟩
      rw [nf_of qH]
      simp [q2, q3, q6, q7, q9, q10]
      refine ⟨fun hlt => ?_, fun hge => ?_⟩
      ·have hw : IntKind.i64.wrap (j + 1) = j + 1 := wrap_id (by omega) (by omega)
       obtain ⟨t, ht⟩ := get_some hlt
       have hm := List.mem_of_getElem? ht
       have htk := h4 t hm
       have hsn := take_snoc ht
       have hno := hnoT (j + 1)
       rw [hsn, tabsUp_snoc] at hno
       simp [ht, hw, q2, q3, q6, q7, q9, q10]
       by_cases htp : stabP c t
       rotate_left
       ·refine callW_ms [.ro, .ro] ?_
        simp [regR]
        refine callX_of ((w36 c r e t htk hc (hf1 t hm)).f htp) (by simp) ?_
        simp
        exact fun h => htp (hST h t hm)
       refine callW_ms [.ro, .ro] ?_
       simp [regR]
       refine callX_of ((w36 c r e t htk hc (hf1 t hm)).t htp) (by simp) ?_
       simp [hw, q2, q3, q6, q7, q9, q10]
       refine twp_for j (fun i s2 => s2.t 2 = .pt [(4, 0)] 0 0 ∧ s2.t 3 = .pt [(5, 0)] 0 0 ∧ s2.t 6 = .rf [(74, 0)] 0 g.length ∧ s2.t 7 = .rf [(77, 0)] 0 L.length ∧ s2.t 9 = .i .i64 (flatR (ts.take j)).length ∧ s2.t 10 = .i .i64 j ∧ s2.t 11 = .pt [(13, 0)] 0 0 ∧ s2.t 12 = .i .i64 i ∧ noT t.1 (ts.take i) ∧ s2.H = lk [(1, []), (4, [.po true [.sl false 2 (c.map dT), .sl false 2 (r.map dT), .sl false 2 (e.map dT)]]), (5, [.po true [.sl false 1 (g.map iT), .sl false 1 (f.map iT), .sl false 3 (ts.map tbT), .sl false 4 (rs.map vT)]]), (74, [.sl true 1 ((leftL g.length (atsR L) (atsR (flatR (ts.take j)))).map bT)]), (77, [.sl true 2 (L.map eT)]), (13, [.po true (tbT t)])]) [] (by simp) ?_ ?_
       ·simp [q2, q3, q6, q7, q9, q10, noT_nil]
       ·rintro i s2 hi ⟨p2, p3, p6, p7, p9, p10, p11, p12, hN, pH⟩
        rw [nf_of pH]
        simp [p2, p3, p6, p7, p9, p10, p11, p12]
        refine ⟨fun hlt2 => ?_, fun hge2 => ?_⟩
        ·have hwi : IntKind.i64.wrap (i + 1) = i + 1 := wrap_id (by omega) (by omega)
         obtain ⟨t2, ht2⟩ := get_some (show i < ts.length by omega)
         have hm2 := List.mem_of_getElem? ht2
         have hsn2 := take_snoc ht2
         simp [ht2, hwi, p2, p3, p6, p7, p9, p10, p11, p12]
         by_cases hq : t2.1 = t.1
         ·refine callW_ms [.ro, .ro] ?_
          simp
          refine callX_of ((w37 t2.1 t.1 (by have := (h4 t2 hm2).1; omega) (by have := htk.1; omega)).t hq) (by simp) ?_
          simp
          refine hno fun h => ?_
          have := h.2.2 t2 (List.mem_iff_getElem?.2 ⟨i, by rw [List.getElem?_take]; simp [hlt2, ht2]⟩)
          simp [isT, hq] at this
         ·refine callW_ms [.ro, .ro] ?_
          simp
          refine callX_of ((w37 t2.1 t.1 (by have := (h4 t2 hm2).1; omega) (by have := htk.1; omega)).f hq) (by simp) ?_
          simp [hwi, p2, p3, p6, p7, p9, p10, p11, p12]
          rw [hsn2]
          exact ⟨hlt2, noT_snoc hN (by simp [isT, hq])⟩
        ·obtain rfl : j = i := by omega
         simp [p2, p3, p6, p7, p9, p10, p11, p12]
         have hfs := flatR_snoc ht
         obtain ⟨A, hA⟩ : ∃ A, A = flatR (ts.take j) := ⟨_, rfl⟩
         rw [← hA] at hfs hG
         have hpre : ∀ k, ∃ rest, flatR ts = (A ++ t.2.1.take k) ++ rest := fun k => by rw [hA]; exact flatR_pre ht k
         have htl : t.2.1.length ≤ 2^36 := htk.2.1
         have wg : IntKind.i64.wrap ((g.length : Int) - 1) = g.length - 1 := wrap_id (by omega) (by omega)
         have hno3 : ∀ k e2, t.2.1[k]? = some e2 → ¬ rowsG g f ((A ++ t.2.1.take k) ++ [e2]) → ¬ WorldOkP c r e (g, f, ts, rs) := fun k e2 he2 h1 h2 => by
          obtain ⟨rest, hr⟩ := hpre (k + 1)
          rw [take_snoc he2, ← List.append_assoc] at hr
          have h3 := h2.2.2.2.2.1
          simp only at h3
          rw [hr] at h3
          exact h1 (rowsG_pre h3)
         refine twp_for t.2.1.length (fun m s3 => s3.t 2 = .pt [(4, 0)] 0 0 ∧ s3.t 3 = .pt [(5, 0)] 0 0 ∧ s3.t 6 = .rf [(74, 0)] 0 g.length ∧ s3.t 7 = .rf [(77, 0)] 0 L.length ∧ s3.t 9 = .i .i64 (A ++ t.2.1.take m).length ∧ s3.t 10 = .i .i64 j ∧ s3.t 11 = .pt [(13, 0)] 0 0 ∧ s3.t 13 = .i .i64 m ∧ rowsG g f (A ++ t.2.1.take m) ∧ s3.H = lk [(1, []), (4, [.po true [.sl false 2 (c.map dT), .sl false 2 (r.map dT), .sl false 2 (e.map dT)]]), (5, [.po true [.sl false 1 (g.map iT), .sl false 1 (f.map iT), .sl false 3 (ts.map tbT), .sl false 4 (rs.map vT)]]), (74, [.sl true 1 ((leftL g.length (atsR L) (atsR (A ++ t.2.1.take m))).map bT)]), (77, [.sl true 2 (L.map eT)]), (13, [.po true (tbT t)])]) [16] (by simp) ?_ ?_
         ·simp [p2, p3, p6, p7, p9, p10, p11, ← hA, hG]
         ·rintro m s3 hm3 ⟨u2, u3, u6, u7, u9, u10, u11, u13, hG2, uH⟩
          obtain ⟨B, hB⟩ : ∃ B, B = A ++ t.2.1.take m := ⟨_, rfl⟩
          have hlen2 := rowsG_len hG2
          rw [← hB] at hG2 hlen2 u9 uH
          rw [nf_of uH]
          simp [u2, u3, u6, u7, u9, u10, u11, u13]
          refine ⟨fun hlt3 => ?_, fun hge3 => ?_⟩
          ·have hwm : IntKind.i64.wrap (m + 1) = m + 1 := wrap_id (by omega) (by omega)
           obtain ⟨x, hx⟩ := get_some hlt3
           have hsn3 := take_snoc hx
           have hno2 := hno3 m x hx
           rw [← hB] at hno2
           rw [rowsG_snoc] at hno2
           have hBs : A ++ t.2.1.take (m + 1) = B ++ [x] := by rw [hsn3, hB, List.append_assoc]
           have wB : IntKind.i64.wrap ((B.length : Int) + 1) = B.length + 1 := wrap_id (by omega) (by omega)
           simp [hx, u2, u3, u6, u7, u9, u10, u11, u13, wg]
           by_cases hr : 0 ≤ x.1 ∧ x.1 ≤ (g.length : Int) - 1
           rotate_left
           ·refine callW_ms [.ro, .ro, .ro] ?_
            simp
            refine callX_of ((w38 _ _ _).f hr) (by simp) ?_
            simp [u2, u3, u6, u7, u9, u10, u11, u13]
            exact hno2 fun h => hr h.2.1.1
           have hgB := leftL_get (n := g.length) (L := atsR L) (B := atsR B) (x := x.1) hr.1 (by omega)
           obtain ⟨y, hy⟩ : ∃ y, g[x.1.toNat]? = some y := get_some (by omega)
           have hr0 := hr.1
           by_cases hlf : x.1 ∈ atsR L ∧ x.1 ∉ atsR B
           rotate_left
           ·rw [decide_eq_false hlf] at hgB
            refine callW_ms [.ro, .ro, .ro] ?_
            simp
            refine callX_of ((w38 _ _ _).t hr) (by simp) ?_
            simp [hgB, hr0, u2, u3, u6, u7, u9, u10, u11, u13]
            refine ⟨by omega, hno2 fun h => hlf ⟨(hmem x.1).2 ⟨⟨hr.1, by omega⟩, h.2.1.2.2⟩, h.2.2⟩⟩
           rw [decide_eq_true hlf] at hgB
           have hxf := ((hmem x.1).1 hlf.1).2
           have hset := leftL_map (n := g.length) (L := atsR L) (B := atsR B) (x := x.1) hr.1 (by omega)
           rw [← atsR_snoc] at hset
           refine callW_ms [.ro, .ro, .ro] ?_
           simp
           refine callX_of ((w38 _ _ _).t hr) (by simp) ?_
           simp [hgB, hy, hr0, hset, wB, hwm, hBs, u2, u3, u6, u7, u9, u10, u11, u13]
           have hBl : B.length = A.length + m := by rw [hB]; simp; omega
           refine ⟨by omega, fun hyv => ⟨by omega, hlt3, by omega, rowsG_snoc.2 ⟨hG2, ⟨hr, by rw [hy, hyv], hxf⟩, hlf.2⟩⟩, fun hyv => hno2 fun h => hyv ?_⟩
           have := h.2.1.2.1
           rw [hy] at this
           exact Option.some.inj this
          ·obtain rfl : m = t.2.1.length := by omega
           rw [List.take_of_length_le (Nat.le_refl _)] at hB
           rw [hfs, ← hB, hsn]
           exact ⟨hlt, rfl, hw, tabsUp_snoc.2 ⟨hU, htp.2, hN⟩, hG2, rfl⟩
      ·obtain rfl : j = ts.length := by omega
       rw [List.take_of_length_le (Nat.le_refl _)] at hG hU ⊢
       constructor
       ·intro h
        exact ⟨⟨hreg, hent, hl1, hl3⟩, resUp_all.1 hV, hU.1, hU.2, hG, by simp only; omega⟩
       ·intro h
        have := h.2.2.2.2.2
        simp only at this
        omega
def fW (w : WorldP) : Prop := (∀ t ∈ w.2.2.1, ∀ vs ∈ t.2.2, valsF vs) ∧ valsF w.2.2.2
end Go.Proofs.YtehmdblkkpdmoaaT


namespace Go.Proofs.YtehmdblkkpdmoaaT
set_option linter.unusedVariables false
set_option linter.unusedSimpArgs false
open Go
def c55 : TCode := (.seq (.ops [⟨(some 4), 6, .mv (.c (.i .i64 0)), none, []⟩])
 (.seq (.seq (.ops [⟨(some 5), 7, .mv (.c (.i .i64 0)), none, []⟩])
 (.block 0 (.loop (.seq (.seq (.ops [⟨(some 6), 8, .mv (.t 5), none, []⟩, ⟨(some 7), 9, .mv (.t 0), none, []⟩, ⟨(some 8), 10, .len false (.t 7), none, []⟩, ⟨(some 9), 11, .bin .lss (.t 6) (.t 8), none, []⟩])
 (.cond (.t 9)
 .skip
 (.exit 0)))
 (.seq (.block 1 (.seq (.ops [⟨(some 12), 14, .mv (.t 0), none, []⟩, ⟨(some 13), 15, .mv (.t 5), none, []⟩, ⟨(some 14), 16, .iaddr 1 (.t 12) (.t 13), none, []⟩, ⟨(some 15), 17, .load false 1 (.t 14), none, []⟩, ⟨(some 16), 18, .mv (.t 1), none, []⟩, ⟨(some 17), 19, .bin .eql (.t 15) (.t 16), none, []⟩])
 (.cond (.t 17)
 (.seq (.ops [⟨(some 18), 20, .mv (.t 5), none, []⟩, ⟨(some 4), 6, .mv (.t 18), none, []⟩])
 .ret)
 .skip)))
 (.ops [⟨(some 10), 12, .mv (.t 5), none, []⟩, ⟨(some 11), 13, .bin .add (.t 10) (.c (.i .i64 1)), none, []⟩, ⟨(some 5), 7, .mv (.t 11), none, []⟩]))))))
 (.seq (.ops [⟨(some 4), 6, .mv (.c (.i .i64 (-1))), none, []⟩])
 .ret)))
theorem k55 : compCode Try.prog Try.f55.ntmps Try.f55.body.get! = some c55 := by kernel_rfl
theorem r55 : resTmps Try.prog Try.f55.results.toList = some [.tmp 4] := by kernel_rfl
def c57 : TCode := (.seq (.ops [⟨(some 4), 6, .box 2 (.t 1), none, []⟩, ⟨(some 6), 8, .mv (.c .np), none, []⟩])
 (.seq (.draw [⟨(some 11), 13, .mv (.t 0), none, []⟩, ⟨(some 12), 14, .nilck (.t 11), none, []⟩, ⟨(some 13), 15, .load true 4 (.t 12), none, []⟩, ⟨(some 14), 16, .load true 2 (.t 4), none, []⟩, ⟨(some 15), 17, .call 94 [((.t 13), 0), ((.t 14), 0)], none, []⟩, ⟨(some 10), 12, .mv (.t 15), none, []⟩, ⟨(some 16), 18, .ext 0 (.t 10), none, []⟩, ⟨(some 17), 19, .ext 1 (.t 10), none, []⟩, ⟨(some 7), 9, .mv (.t 16), none, []⟩, ⟨(some 8), 10, .mv (.t 17), none, []⟩])
 (.seq (.seq (.ops [⟨(some 18), 20, .mv (.t 7), none, []⟩, ⟨(some 19), 21, .bin .lss (.t 18) (.c (.i .i64 0)), none, []⟩])
 (.cond (.t 19)
 (.seq (.ops [⟨(some 6), 8, .mv (.c .np), none, []⟩])
 .ret)
 .skip))
 (.seq (.ops [⟨(some 20), 22, .mv (.t 0), none, []⟩, ⟨(some 21), 23, .nilck (.t 20), none, []⟩, ⟨(some 22), 24, .faddr 2 1 (.t 21), none, []⟩, ⟨(some 23), 25, .load false 1 (.t 22), none, []⟩, ⟨(some 24), 26, .mv (.t 7), none, []⟩, ⟨(some 25), 27, .iaddr 3 (.t 23) (.t 24), none, []⟩, ⟨(some 26), 28, .faddr 0 1 (.t 25), none, []⟩, ⟨(some 27), 29, .load false 1 (.t 26), none, []⟩, ⟨(some 28), 30, .mv (.t 2), none, []⟩, ⟨(some 29), 31, .call 95 [((.t 27), 0), ((.t 28), 0)], none, []⟩, ⟨(some 9), 11, .mv (.t 29), none, []⟩])
 (.seq (.seq (.ops [⟨(some 30), 32, .mv (.t 9), none, []⟩, ⟨(some 31), 33, .bin .lss (.t 30) (.c (.i .i64 0)), none, []⟩])
 (.cond (.t 31)
 (.seq (.ops [⟨(some 6), 8, .mv (.c .np), none, []⟩])
 .ret)
 .skip))
 (.seq (.ops [⟨(some 32), 34, .mv (.t 0), none, []⟩, ⟨(some 33), 35, .nilck (.t 32), none, []⟩, ⟨(some 34), 36, .faddr 2 1 (.t 33), none, []⟩, ⟨(some 35), 37, .load false 1 (.t 34), none, []⟩, ⟨(some 36), 38, .mv (.t 7), none, []⟩, ⟨(some 37), 39, .iaddr 3 (.t 35) (.t 36), none, []⟩, ⟨(some 38), 40, .faddr 2 1 (.t 37), none, []⟩, ⟨(some 39), 41, .load false 1 (.t 38), none, []⟩, ⟨(some 40), 42, .mv (.t 9), none, []⟩, ⟨(some 41), 43, .iaddr 1 (.t 39) (.t 40), none, []⟩, ⟨(some 42), 44, .load false 1 (.t 41), none, []⟩, ⟨(some 43), 45, .mv (.t 8), none, []⟩, ⟨(some 44), 46, .iaddr 4 (.t 42) (.t 43), none, []⟩, ⟨(some 6), 8, .mv (.t 44), none, []⟩])
 .ret))))))
theorem k57 : compCode Try.prog Try.f57.ntmps Try.f57.body.get! = some c57 := by kernel_rfl
theorem r57 : resTmps Try.prog Try.f57.results.toList = some [.tmp 6] := by kernel_rfl
def c15 : TCode := (.seq (.ops [⟨(some 4), 6, .box 3 (.t 0), none, []⟩, ⟨(some 5), 7, .box 4 (.t 1), none, []⟩, ⟨(some 6), 8, .box 2 (.t 2), none, []⟩, ⟨(some 8), 10, .box 4 (.c (.ag [(.i .i64 0), (.i .i64 0), (.f 0), (.f 0)])), none, []⟩, ⟨(some 9), 11, .mv (.c (.b false)), none, []⟩])
 (.seq (.seq (.ops [⟨(some 13), 15, .load true 3 (.t 4), none, []⟩, ⟨(some 14), 16, .load true 4 (.t 5), none, []⟩, ⟨(some 15), 17, .call 9 [((.t 13), 0), ((.t 14), 0)], none, []⟩, ⟨(some 16), 18, .un .not (.t 15), none, []⟩, ⟨(some 17), 19, .mv (.t 16), none, []⟩, ⟨(some 18), 20, .faddr 0 2 (.t 5), (some (17, false)), []⟩, ⟨(some 19), 21, .load true 2 (.t 18), (some (17, false)), []⟩, ⟨(some 20), 22, .load true 2 (.t 6), (some (17, false)), []⟩, ⟨(some 21), 23, .call 53 [((.t 19), 0), ((.t 20), 0)], (some (17, false)), []⟩, ⟨(some 22), 24, .un .not (.t 21), (some (17, false)), []⟩, ⟨(some 23), 25, .pick (.t 17) (.c (.b true)) (.t 22), none, []⟩])
 (.cond (.t 23)
 (.seq (.ops [⟨(some 24), 26, .build [(.i .i64 0), (.i .i64 0), (.f 0), (.f 0)] [], none, []⟩, ⟨none, 1002001, .store 4 (.t 8) (.t 24), none, []⟩, ⟨(some 9), 11, .mv (.c (.b false)), none, []⟩])
 .ret)
 .skip))
 (.seq (.ops [⟨(some 26), 28, .load true 4 (.t 5), none, []⟩, ⟨(some 27), 29, .load true 2 (.t 6), none, []⟩, ⟨(some 28), 30, .call 54 [((.t 26), 0), ((.t 27), 0)], none, []⟩, ⟨(some 25), 27, .mv (.t 28), none, []⟩, ⟨(some 29), 31, .ext 0 (.t 25), none, []⟩, ⟨(some 30), 32, .ext 1 (.t 25), none, []⟩, ⟨(some 10), 12, .mv (.t 29), none, []⟩, ⟨(some 11), 13, .mv (.t 30), none, []⟩])
 (.seq (.ops [⟨(some 31), 33, .faddr 2 1 (.t 5), none, []⟩, ⟨(some 32), 34, .load false 1 (.t 31), none, []⟩, ⟨(some 33), 35, .mv (.t 10), none, []⟩, ⟨(some 34), 36, .iaddr 3 (.t 32) (.t 33), none, []⟩, ⟨(some 35), 37, .faddr 0 1 (.t 34), none, []⟩, ⟨(some 36), 38, .load false 1 (.t 35), none, []⟩, ⟨(some 37), 39, .mv (.t 3), none, []⟩, ⟨(some 38), 40, .call 55 [((.t 36), 0), ((.t 37), 0)], none, []⟩, ⟨(some 12), 14, .mv (.t 38), none, []⟩])
 (.seq (.seq (.ops [⟨(some 39), 41, .mv (.t 12), none, []⟩, ⟨(some 40), 42, .bin .lss (.t 39) (.c (.i .i64 0)), none, []⟩])
 (.cond (.t 40)
 (.seq (.ops [⟨(some 41), 43, .build [(.i .i64 0), (.i .i64 0), (.f 0), (.f 0)] [], none, []⟩, ⟨none, 1006001, .store 4 (.t 8) (.t 41), none, []⟩, ⟨(some 9), 11, .mv (.c (.b false)), none, []⟩])
 .ret)
 .skip))
 (.seq (.ops [⟨(some 42), 44, .faddr 2 1 (.t 5), none, []⟩, ⟨(some 43), 45, .load false 1 (.t 42), none, []⟩, ⟨(some 44), 46, .mv (.t 10), none, []⟩, ⟨(some 45), 47, .iaddr 3 (.t 43) (.t 44), none, []⟩, ⟨(some 46), 48, .faddr 2 1 (.t 45), none, []⟩, ⟨(some 47), 49, .load false 1 (.t 46), none, []⟩, ⟨(some 48), 50, .mv (.t 12), none, []⟩, ⟨(some 49), 51, .iaddr 1 (.t 47) (.t 48), none, []⟩, ⟨(some 50), 52, .load false 1 (.t 49), none, []⟩, ⟨(some 51), 53, .mv (.t 11), none, []⟩, ⟨(some 52), 54, .iaddr 4 (.t 50) (.t 51), none, []⟩, ⟨(some 53), 55, .load true 4 (.t 52), none, []⟩, ⟨none, 1007012, .store 4 (.t 8) (.t 53), none, []⟩, ⟨(some 9), 11, .mv (.c (.b true)), none, []⟩])
 .ret))))))
theorem k15 : compCode Try.prog Try.f15.ntmps Try.f15.body.get! = some c15 := by kernel_rfl
theorem r15 : resTmps Try.prog Try.f15.results.toList = some [.cell 8 true 4, .tmp 9] := by kernel_rfl
def c17 : TCode := (.seq (.ops [⟨(some 4), 6, .box 3 (.t 0), none, []⟩, ⟨(some 5), 7, .box 4 (.t 1), none, []⟩, ⟨(some 6), 8, .box 2 (.t 2), none, []⟩, ⟨(some 8), 10, .box 4 (.c (.ag [(.i .i64 0), (.i .i64 0), (.f 0), (.f 0)])), none, []⟩, ⟨(some 9), 11, .mv (.c (.b false)), none, []⟩])
 (.seq (.seq (.ops [⟨(some 11), 13, .load true 3 (.t 4), none, []⟩, ⟨(some 12), 14, .load true 4 (.t 5), none, []⟩, ⟨(some 13), 15, .call 12 [((.t 11), 0), ((.t 12), 0)], none, []⟩, ⟨(some 14), 16, .un .not (.t 13), none, []⟩, ⟨(some 15), 17, .mv (.t 14), none, []⟩, ⟨(some 16), 18, .faddr 0 2 (.t 5), (some (15, false)), []⟩, ⟨(some 17), 19, .load true 2 (.t 6), (some (15, false)), []⟩, ⟨(some 18), 20, .call 56 [((.t 16), 0), ((.t 17), 0)], (some (15, false)), []⟩, ⟨(some 19), 21, .un .not (.t 18), (some (15, false)), []⟩, ⟨(some 20), 22, .pick (.t 15) (.c (.b true)) (.t 19), none, []⟩])
 (.cond (.t 20)
 (.seq (.ops [⟨(some 21), 23, .build [(.i .i64 0), (.i .i64 0), (.f 0), (.f 0)] [], none, []⟩, ⟨none, 1002001, .store 4 (.t 8) (.t 21), none, []⟩, ⟨(some 9), 11, .mv (.c (.b false)), none, []⟩])
 .ret)
 .skip))
 (.seq (.ops [⟨(some 22), 24, .load true 2 (.t 6), none, []⟩, ⟨(some 23), 25, .mv (.t 3), none, []⟩, ⟨(some 24), 26, .call 57 [((.t 5), 0), ((.t 22), 0), ((.t 23), 0)], none, []⟩, ⟨(some 10), 12, .mv (.t 24), none, []⟩])
 (.seq (.seq (.ops [⟨(some 25), 27, .mv (.t 10), none, []⟩, ⟨(some 26), 28, .eqp false (.t 25) (.c .np), none, []⟩])
 (.cond (.t 26)
 (.seq (.ops [⟨(some 27), 29, .build [(.i .i64 0), (.i .i64 0), (.f 0), (.f 0)] [], none, []⟩, ⟨none, 1005001, .store 4 (.t 8) (.t 27), none, []⟩, ⟨(some 9), 11, .mv (.c (.b false)), none, []⟩])
 .ret)
 .skip))
 (.seq (.ops [⟨(some 28), 30, .mv (.t 10), none, []⟩, ⟨(some 29), 31, .nilck (.t 28), none, []⟩, ⟨(some 30), 32, .load true 4 (.t 29), none, []⟩, ⟨none, 1006003, .store 4 (.t 8) (.t 30), none, []⟩, ⟨(some 9), 11, .mv (.c (.b true)), none, []⟩])
 .ret)))))
theorem k17 : compCode Try.prog Try.f17.ntmps Try.f17.body.get! = some c17 := by kernel_rfl
theorem r17 : resTmps Try.prog Try.f17.results.toList = some [.cell 8 true 4, .tmp 9] := by kernel_rfl
theorem w55 (l : List Int) (x : Int) (hl : l.length ≤ 2^40) : Contract Try.prog false 55 [.ro, .ro] [.sl false 1 (l.map iT), .i .i64 x] [.i .i64 (idxF l x)] [] := by
 refine mk_contract [] Try.func55 (c := Try.f55.body.get!) (by kernel_rfl) k55 r55 (of_decide_eq_true rfl) fun _ => ?_
 unfold c55; simp
 refine twp_for l.length (fun j s => s.t 0 = .sl false 1 (l.map iT) ∧ s.t 1 = .i .i64 x ∧ s.t 5 = .i .i64 j ∧ x ∉ l.take j ∧ s.H = lk [(1, [])]) [] (by simp) ?_ ?_
 ·simp
 ·rintro j s hj ⟨q0, q1, q5, hn, qH⟩
  rw [nf_of qH]
  simp [q0, q1, q5]
  refine ⟨fun hlt => ?_, fun hge => ?_⟩
  ·have hw : IntKind.i64.wrap (j + 1) = j + 1 := wrap_id (by omega) (by omega)
   obtain ⟨y, hy⟩ := get_some hlt
   simp [hy, hw, q0, q1, q5]
   refine ⟨fun hxy => ?_, fun hxy => ⟨hlt, ?_⟩⟩
   ·subst hxy; exact (idxF_at hy hn).symm
   ·rw [take_snoc hy]; simp; exact ⟨hn, fun h => hxy h.symm⟩
  ·obtain rfl : j = l.length := by omega
   rw [List.take_of_length_le (Nat.le_refl _)] at hn
   simp [idxF, hn]
theorem W56w (g f : List Int) (ts : List TableP) (rs : List ValP) (x y : Int) (hg : g.length ≤ 2^40) (hf : f.length ≤ 2^40) : Contract Try.prog false 56 [.ro, .ro] [.po false [.sl false 1 (g.map iT), .sl false 1 (f.map iT), .sl false 3 (ts.map tbT), .sl false 4 (rs.map vT)], entT x y] [.b (decide (liveP g f x y))] [] := by
 refine mk_contract [] Try.func56 (c := Try.f56.body.get!) (by kernel_rfl) k56 r56 (of_decide_eq_true rfl) fun _ => ?_
 have hw2 : IntKind.i64.wrap (g.length - 1) = g.length - 1 := wrap_id (by omega) (by omega)
 unfold c56 entT; simp [hw2]
 refine callW_ms [.ro, .ro, .ro] ?_
 simp
 by_cases hr : 0 ≤ x ∧ x ≤ (g.length : Int) - 1
 ·refine callX_of ((w87 _ _ _).t hr) (by simp) ?_
  obtain ⟨z, hz⟩ := get_some (l := g) (j := x.toNat) (by omega)
  simp [hr.1, hz]
  by_cases hzy : z = y
  ·subst hzy
   simp
   refine callW_ms [.ro, .ro] ?_
   simp
   refine callX_of (w73 f x hf) (by simp) ?_
   simp [liveP, hr, hz]
  ·have : ¬ liveP g f x y := fun h => by have := h.2.1; rw [hz] at this; cases this; exact hzy rfl
   simp [hzy, this]
 ·refine callX_of ((w87 _ _ _).f hr) (by simp) ?_
  have : ¬ liveP g f x y := fun h => hr h.1
  simp [this]
theorem nodup_le {α : Type} [BEq α] [LawfulBEq α] : ∀ {l m : List α}, l.Nodup → (∀ x ∈ l, x ∈ m) → l.length ≤ m.length
 | [], m, _, _ => by simp
 | a :: l, m, hd, hs => by
  rw [List.nodup_cons] at hd
  have ha := hs a (by simp)
  have h1 := nodup_le (l := l) (m := m.erase a) hd.2 fun x hx => (List.mem_erase_of_ne (by rintro rfl; exact hd.1 hx)).2 (hs x (by simp [hx]))
  rw [List.length_erase_of_mem ha] at h1
  have : 0 < m.length := List.length_pos_of_mem ha
  simp only [List.length_cons]; omega
theorem live_row {g f : List Int} {rs : List (Int × Int)} {e : Int × Int} (hE : EntsOkP g f) (h : rowsP g f rs) (he : liveP g f e.1 e.2) : e ∈ rs := by
 have hlen := live_len hE.2.1
 have hmem := live_mem g f g.length
 obtain ⟨⟨h1, h2⟩, h3⟩ := h
 have hin : e.1 ∈ atsR rs := by
  refine Decidable.byContradiction fun hn => ?_
  have hsub : ∀ x ∈ e.1 :: atsR rs, x ∈ atsR (liveG g f g.length) := by
   intro x hx
   rcases List.mem_cons.1 hx with rfl | hx
   ·exact (hmem _).2 ⟨⟨he.1.1, by have := he.1.2; omega⟩, he.2.2⟩
   ·obtain ⟨y, hy, rfl⟩ := List.mem_map.1 hx
    have hl := h1 y hy
    exact (hmem _).2 ⟨⟨hl.1.1, by have := hl.1.2; omega⟩, hl.2.2⟩
  have := nodup_le (List.nodup_cons.2 ⟨hn, h2⟩) hsub
  simp [atsR] at this
  omega
 obtain ⟨y, hy, hye⟩ := List.mem_map.1 hin
 have hl := (h1 y hy).2.1
 rw [hye, he.2.1] at hl
 have : y = e := Prod.ext hye (Option.some.inj hl).symm
 rw [← this]; exact hy
theorem where_row {e : Int × Int} : ∀ {ts : List TableP} (i : Nat), e ∈ flatR ts → ∃ (j k : Nat) (t : TableP), ts[j]? = some t ∧ t.2.1[k]? = some e ∧ whereG e ts i = (((i + j : Nat) : Int), (k : Int))
 | [], i, h => by cases h
 | t :: ts, i, h => by
  by_cases hp : 0 ≤ idxP (isE e) t.2.1
  ·obtain ⟨k, hk⟩ : ∃ k : Nat, idxP (isE e) t.2.1 = k := ⟨(idxP (isE e) t.2.1).toNat, by omega⟩
   refine ⟨0, k, t, rfl, ?_, ?_⟩
   ·unfold idxP at hk
    split at hk
    ·rename_i m hm
     have : m = k := by omega
     subst this
     rw [List.findIdx?_eq_some_iff_getElem] at hm
     obtain ⟨hlt, hq, -⟩ := hm
     rw [List.getElem?_eq_getElem hlt]
     simp [isE] at hq
     rw [hq]
    ·omega
   ·simp only [whereG, if_pos hp, Nat.add_zero]
    rw [hk]
  ·have h2 : e ∈ flatR ts := by
    have h3 : e ∈ t.2.1 ∨ e ∈ flatR ts := by simpa [flatR] using h
    rcases h3 with h3 | h3
    ·exact absurd (idxP_ge.2 ⟨e, h3, by simp [isE]⟩) hp
    ·exact h3
   obtain ⟨j, k, t2, h4, h5, h6⟩ := where_row (i + 1) h2
   refine ⟨j + 1, k, t2, by simpa using h4, h5, ?_⟩
   simp only [whereG, if_neg hp, h6]
   congr 2; omega
def cellIn (t : TableP) (k : Nat) (comp : Int) : Option ValP := if 0 ≤ idxF t.1 comp then (t.2.2[(idxF t.1 comp).toNat]?).bind (·[k]?) else none
def cellF (ts : List TableP) (e : Int × Int) (comp : Int) : Option ValP := if 0 ≤ (whereG e ts 0).1 then (ts[(whereG e ts 0).1.toNat]?).bind fun t => cellIn t (whereG e ts 0).2.toNat comp else none
noncomputable def getF (c r d : DeclsP) (w : WorldP) (e : Int × Int) (comp : Int) : Option ValP := @ite _ (WorldOkP c r d w ∧ liveP w.1 w.2.1 e.1 e.2) (Classical.propDecidable _) (cellF w.2.2.1 e comp) none
def ptV (o : Option ValP) : TV := match o with | some v => .po false (vT v) | none => .np
theorem w57 (w : WorldP) (e : Int × Int) (comp : Int) (h : okW w) (j k : Nat) (t : TableP) (hj : w.2.2.1[j]? = some t) (hk : t.2.1[k]? = some e) (hw : whereG e w.2.2.1 0 = ((j : Int), (k : Int))) (hl : t.2.2.length = t.1.length) (hv : ∀ vs ∈ t.2.2, vs.length = t.2.1.length) : Contract Try.prog true 57 [.own, .ro, .ro] [.po true [.sl false 1 (w.1.map iT), .sl false 1 (w.2.1.map iT), .sl false 3 (w.2.2.1.map tbT), .sl false 4 (w.2.2.2.map vT)], .ag (eT e), .i .i64 comp] [ptV (cellIn t k comp)] [some (.po true [.sl false 1 (w.1.map iT), .sl false 1 (w.2.1.map iT), .sl false 3 (w.2.2.1.map tbT), .sl false 4 (w.2.2.2.map vT)])] := by
 refine mk_contract [some [(1, 0)]] Try.func57 (c := Try.f57.body.get!) (by kernel_rfl) k57 r57 (of_decide_eq_true rfl) fun _ => ?_
 have hW := w94 w e h
 rw [hw] at hW
 obtain ⟨h1, h2, ⟨h3, h4⟩, h5⟩ := h
 obtain ⟨g, f, ts, rs⟩ := w
 simp only at h1 h2 h3 h4 h5 hj hW ⊢
 have htk := h4 t (List.mem_of_getElem? hj)
 unfold c57
 have hix : 0 ≤ idxF t.1 comp → (idxF t.1 comp).toNat < t.1.length := fun h => by
  have hm := (idxF_ge _ _).1 h
  have := List.idxOf_lt_length_of_mem hm
  unfold idxF
  rw [if_pos hm]
  omega
 obtain ⟨ix, hixe⟩ : ∃ ix, ix = idxF t.1 comp := ⟨_, rfl⟩
 have hkl : k < t.2.1.length := (List.getElem?_eq_some_iff.1 hk).1
 unfold cellIn
 rw [← hixe] at hix ⊢
 have hI := w95 t.1 comp (by have := htk.1; omega)
 rw [← hixe] at hI
 by_cases h0 : 0 ≤ ix
 ·obtain ⟨vs, hvs⟩ : ∃ vs, t.2.2[ix.toNat]? = some vs := get_some (by rw [hl]; exact hix h0)
  have hvl := hv vs (List.mem_of_getElem? hvs)
  obtain ⟨v, hvv⟩ : ∃ v, vs[k]? = some v := get_some (by omega)
  rw [if_pos h0, hvs]
  simp only [Option.bind_some, hvv, ptV]
  simp
  refine callW_ms [.ro, .ro] ?_
  simp
  refine callX_of hW (by simp) ?_
  simp [hj]
  refine callW_ms [.ro, .ro] ?_
  simp
  refine callX_of hI (by simp) ?_
  simp [hj, hvs, hvv, h0]
 ·rw [if_neg h0]
  simp only [ptV]
  simp
  refine callW_ms [.ro, .ro] ?_
  simp
  refine callX_of hW (by simp) ?_
  simp [hj]
  refine callW_ms [.ro, .ro] ?_
  simp
  refine callX_of hI (by simp) ?_
  simp [hj, h0]
def nilV : ValP := (0, 0, 0, 0)
noncomputable def getP (c r d : DeclsP) (w : WorldP) (e : Int × Int) (comp : Int) : ValP × Bool := match getF c r d w e comp with | some v => (v, true) | none => (nilV, false)
theorem cellF_at {ts : List TableP} {e : Int × Int} {comp : Int} {j k : Nat} {t : TableP} (hj : ts[j]? = some t) (hw : whereG e ts 0 = ((j : Int), (k : Int))) : cellF ts e comp = cellIn t k comp := by
 unfold cellF
 rw [hw]
 have h0 : (0 : Int) ≤ (j : Int) := by omega
 simp only [if_pos h0, Int.toNat_natCast, hj, Option.bind_some]
theorem tab_vals {c : DeclsP} {t : TableP} (h : tabP c t) : ∀ vs ∈ t.2.2, vs.length = t.2.1.length := by
 intro vs hvs
 obtain ⟨i, hi⟩ := List.mem_iff_getElem?.1 hvs
 obtain ⟨x, hx⟩ : ∃ x, t.1[i]? = some x := get_some (by rw [← h.2.1]; exact (List.getElem?_eq_some_iff.1 hi).1)
 exact (h.2.2 i x vs hx hi).1
theorem idx_lt {l : List Int} {x : Int} (h : 0 ≤ idxF l x) : (idxF l x).toNat < l.length := by
 have hm := (idxF_ge _ _).1 h
 have := List.idxOf_lt_length_of_mem hm
 unfold idxF
 rw [if_pos hm]
 omega
set_option maxHeartbeats 1000000 in
set_option maxRecDepth 100000 in
theorem w15 (c r d : DeclsP) (w : WorldP) (e : Int × Int) (comp : Int) (h : okW w) (hc : c.length ≤ 2^40) (hr : r.length ≤ 2^40) (he : d.length ≤ 2^40) (hf : fW w) : Contract Try.prog false 15 [.ro, .ro, .ro, .ro] [regR c r d, worldR w.1 w.2.1 w.2.2.1 w.2.2.2, .ag (eT e), .i .i64 comp] [valV (getP c r d w e comp).1, .b (getP c r d w e comp).2] [] := by
 refine mk_contract [] Try.func15 (c := Try.f15.body.get!) (by kernel_rfl) k15 r15 (of_decide_eq_true rfl) fun _ => ?_
 have hW := w54 w e h
 have hOk := w9 c r d w h hc hr he hf.1 hf.2
 obtain ⟨h1, h2, ⟨h3, h4⟩, h5⟩ := h
 obtain ⟨g, f, ts, rs⟩ := w
 simp only at h1 h2 h3 h4 h5 hW hOk ⊢
 unfold c15; unfold regR getP getF valV; simp
 by_cases hw : WorldOkP c r d (g, f, ts, rs)
 rotate_left
 ·refine callW_ms [.ro, .ro] ?_
  simp
  refine callX_of (hOk.f hw) (by simp [regR]) ?_
  simp [hw, nilV]
 refine callW_ms [.ro, .ro] ?_
 simp
 refine callX_of (hOk.t hw) (by simp [regR]) ?_
 simp
 by_cases hlv : liveP g f e.1 e.2
 rotate_left
 ·refine callW_ms [.ro, .ro] ?_
  simp [entsR, entT]
  refine callX_of ((w53 g f e.1 e.2 (by omega) (by omega)).f hlv) (by simp) ?_
  simp
  simp [hlv, nilV]
 refine callW_ms [.ro, .ro] ?_
 simp [entsR, entT]
 refine callX_of ((w53 g f e.1 e.2 (by omega) (by omega)).t hlv) (by simp) ?_
 simp
 obtain ⟨j, k, t, hj, hk, hwj⟩ := where_row 0 (live_row hw.1.2.1 hw.2.2.2.2 hlv)
 rw [Nat.zero_add] at hwj
 simp only at hj hwj
 rw [hwj] at hW
 have hcF := cellF_at (comp := comp) hj hwj
 have htp := hw.2.2.1 t (List.mem_of_getElem? hj)
 have htk := h4 t (List.mem_of_getElem? hj)
 have hvals := tab_vals htp
 have hkl : k < t.2.1.length := (List.getElem?_eq_some_iff.1 hk).1
 have hI := w55 t.1 comp (by have := htk.1; omega)
 have hix := idx_lt (l := t.1) (x := comp)
 refine callW_ms [.ro, .ro] ?_
 simp
 refine callX_of hW (by simp) ?_
 simp [hj, hw, hlv, hcF]
 unfold cellIn
 generalize idxF t.1 comp = ix at *
 refine callW_ms [.ro, .ro] ?_
 simp
 refine callX_of hI (by simp) ?_
 by_cases h0 : 0 ≤ ix
 ·obtain ⟨vs, hvs⟩ : ∃ vs, t.2.2[ix.toNat]? = some vs := get_some (by rw [htp.2.1]; exact hix h0)
  have hvl := hvals vs (List.mem_of_getElem? hvs)
  obtain ⟨v, hvv⟩ : ∃ v, vs[k]? = some v := get_some (by omega)
  have hn0 : ¬ ix < 0 := by omega
  simp [hj, hvs, hvv, h0, hn0]
 ·simp [hj, h0, nilV]
set_option maxHeartbeats 1000000 in
set_option maxRecDepth 100000 in
theorem w17 (c r d : DeclsP) (w : WorldP) (e : Int × Int) (comp : Int) (h : okW w) (hc : c.length ≤ 2^40) (hr : r.length ≤ 2^40) (he : d.length ≤ 2^40) (hs : ∀ l ∈ [c, r, d], ∀ d ∈ l, d.1.size ≤ 2^40) : Contract Try.prog false 17 [.ro, .ro, .ro, .ro] [regR c r d, worldR w.1 w.2.1 w.2.2.1 w.2.2.2, .ag (eT e), .i .i64 comp] [valV (getP c r d w e comp).1, .b (getP c r d w e comp).2] [] := by
 refine mk_contract [] Try.func17 (c := Try.f17.body.get!) (by kernel_rfl) k17 r17 (of_decide_eq_true rfl) fun _ => ?_
 have hOk := w12 c r d w h hc hr he hs
 have hC := w57 w e comp h
 obtain ⟨h1, h2, ⟨h3, h4⟩, h5⟩ := h
 obtain ⟨g, f, ts, rs⟩ := w
 simp only at h1 h2 h3 h4 h5 hOk hC ⊢
 unfold c17; unfold regR getP getF valV; simp
 by_cases hw : WorldOkP c r d (g, f, ts, rs)
 rotate_left
 ·refine callW_ms [.ro, .ro] ?_
  simp
  refine callX_of (hOk.f hw) (by simp [regR]) ?_
  simp [hw, nilV]
 refine callW_ms [.ro, .ro] ?_
 simp
 refine callX_of (hOk.t hw) (by simp [regR]) ?_
 simp
 by_cases hlv : liveP g f e.1 e.2
 rotate_left
 ·refine callW_ms [.ro, .ro] ?_
  simp
  refine callX_of ((W56w g f ts rs e.1 e.2 (by omega) (by omega)).f hlv) (by simp) ?_
  simp [hlv, nilV]
 refine callW_ms [.ro, .ro] ?_
 simp
 refine callX_of ((W56w g f ts rs e.1 e.2 (by omega) (by omega)).t hlv) (by simp) ?_
 simp
 obtain ⟨j, k, t, hj, hk, hwj⟩ := where_row 0 (live_row hw.1.2.1 hw.2.2.2.2 hlv)
 rw [Nat.zero_add] at hwj
 simp only at hj hwj
 have hcF := cellF_at (comp := comp) hj hwj
 have htp := hw.2.2.1 t (List.mem_of_getElem? hj)
 have hCC := hC j k t hj hk hwj htp.2.1 (tab_vals htp)
 simp [hw, hlv, hcF]
 generalize cellIn t k comp = o at *
 cases o with
 | none =>
  simp only [ptV] at hCC
  refine callW_ms [.own, .ro, .ro] ?_
  simp
  refine callX_of hCC (by simp) ?_
  simp [nilV]
 | some v =>
  simp only [ptV] at hCC
  refine callW_ms [.own, .ro, .ro] ?_
  simp
  refine callX_of hCC (by simp) ?_
  simp
end Go.Proofs.YtehmdblkkpdmoaaT


namespace Go.Proofs.YtehmdblkkpdmoaaT
set_option linter.unusedVariables false
set_option linter.unusedSimpArgs false
open Go
def c111 : TCode := (.seq (.ops [⟨(some 4), 6, .mv (.c (.i .i64 0)), none, []⟩])
 (.seq (.seq (.ops [⟨(some 6), 8, .mv (.t 0), none, []⟩, ⟨(some 7), 9, .len false (.t 6), none, []⟩, ⟨(some 8), 10, .mv (.c (.i .i64 0)), none, []⟩])
 (.block 0 (.loop (.seq (.ops [⟨(some 9), 11, .bin .lss (.t 8) (.t 7), none, []⟩])
 (.seq (.cond (.t 9)
 .skip
 (.exit 0))
 (.seq (.block 1 (.seq (.ops [⟨(some 10), 12, .mv (.t 8), none, []⟩, ⟨(some 5), 7, .mv (.t 10), none, []⟩])
 (.seq (.ops [⟨(some 11), 13, .mv (.t 1), none, []⟩, ⟨(some 12), 14, .mv (.t 0), none, []⟩, ⟨(some 13), 15, .mv (.t 5), none, []⟩, ⟨(some 14), 16, .iaddr 1 (.t 12) (.t 13), none, []⟩, ⟨(some 15), 17, .load false 1 (.t 14), none, []⟩, ⟨(some 16), 18, .callv (.t 11) [((.t 15), 0)], none, []⟩])
 (.cond (.t 16)
 (.seq (.ops [⟨(some 17), 19, .mv (.t 5), none, []⟩, ⟨(some 4), 6, .mv (.t 17), none, []⟩])
 .ret)
 .skip))))
 (.ops [⟨(some 18), 20, .bin .add (.t 8) (.c (.i .i64 1)), none, []⟩, ⟨(some 8), 10, .mv (.t 18), none, []⟩])))))))
 (.seq (.ops [⟨(some 4), 6, .mv (.c (.i .i64 (-1))), none, []⟩])
 .ret)))
theorem k111 : compCode Try.prog Try.f111.ntmps Try.f111.body.get! = some c111 := by kernel_rfl
theorem r111 : resTmps Try.prog Try.f111.results.toList = some [.tmp 4] := by kernel_rfl
def c71 : TCode := (.seq (.ops [⟨(some 4), 6, .mv (.c (.b false)), none, []⟩])
 (.seq (.ops [⟨(some 5), 7, .mv (.t 0), none, []⟩, ⟨(some 6), 8, .mv (.t 1), none, []⟩, ⟨(some 7), 9, .call 111 [((.t 5), 0), ((.t 6), 0)], none, []⟩, ⟨(some 8), 10, .bin .geq (.t 7) (.c (.i .i64 0)), none, []⟩, ⟨(some 4), 6, .mv (.t 8), none, []⟩])
 .ret))
theorem k71 : compCode Try.prog Try.f71.ntmps Try.f71.body.get! = some c71 := by kernel_rfl
theorem r71 : resTmps Try.prog Try.f71.results.toList = some [.tmp 4] := by kernel_rfl
def c72 : TCode := (.seq (.ops [⟨(some 3), 5, .mv (.c (.b false)), none, []⟩])
 (.seq (.ops [⟨(some 4), 6, .load false 1 (.t 1), none, []⟩, ⟨(some 5), 7, .nilck (.t 4), none, []⟩, ⟨(some 6), 8, .faddr 0 1 (.t 5), none, []⟩, ⟨(some 7), 9, .load false 1 (.t 6), none, []⟩, ⟨(some 8), 10, .mv (.t 0), none, []⟩, ⟨(some 9), 11, .call 73 [((.t 7), 0), ((.t 8), 0)], none, []⟩, ⟨(some 10), 12, .un .not (.t 9), none, []⟩, ⟨(some 3), 5, .mv (.t 10), none, []⟩])
 .ret))
theorem k72 : compCode Try.prog Try.f72.ntmps Try.f72.body.get! = some c72 := by kernel_rfl
theorem r72 : resTmps Try.prog Try.f72.results.toList = some [.tmp 3] := by kernel_rfl
def c74 : TCode := (.seq (.ops [⟨(some 3), 5, .mv (.c (.b false)), none, []⟩])
 (.seq (.ops [⟨(some 4), 6, .load false 1 (.t 1), none, []⟩, ⟨(some 5), 7, .nilck (.t 4), none, []⟩, ⟨(some 6), 8, .faddr 0 1 (.t 5), none, []⟩, ⟨(some 7), 9, .load false 1 (.t 6), none, []⟩, ⟨(some 8), 10, .mv (.t 0), none, []⟩, ⟨(some 9), 11, .call 73 [((.t 7), 0), ((.t 8), 0)], none, []⟩, ⟨(some 3), 5, .mv (.t 9), none, []⟩])
 .ret))
theorem k74 : compCode Try.prog Try.f74.ntmps Try.f74.body.get! = some c74 := by kernel_rfl
theorem r74 : resTmps Try.prog Try.f74.results.toList = some [.tmp 3] := by kernel_rfl
def c27 : TCode := (.seq (.ops [⟨(some 3), 5, .box 4 (.t 0), none, []⟩, ⟨(some 6), 8, .mv (.c (.sl true 2 [])), none, []⟩])
 (.seq (.ops [⟨(some 11), 13, .bslice 2 0 [(.i .i64 0), (.i .i64 0)] [], none, []⟩, ⟨(some 7), 9, .mv (.t 11), none, []⟩])
 (.seq (.seq (.ops [⟨(some 12), 14, .faddr 2 1 (.t 3), none, []⟩, ⟨(some 13), 15, .load false 1 (.t 12), none, []⟩, ⟨(some 14), 16, .len false (.t 13), none, []⟩, ⟨(some 15), 17, .bin .gtr (.t 14) (.c (.i .i64 40)), none, []⟩, ⟨(some 16), 18, .mv (.t 15), none, []⟩, ⟨(some 17), 19, .mv (.t 1), (some (16, false)), []⟩, ⟨(some 18), 20, .len false (.t 17), (some (16, false)), []⟩, ⟨(some 19), 21, .bin .gtr (.t 18) (.c (.i .i64 12)), (some (16, false)), []⟩, ⟨(some 20), 22, .pick (.t 16) (.c (.b true)) (.t 19), none, []⟩, ⟨(some 21), 23, .mv (.t 20), none, []⟩, ⟨(some 22), 24, .mv (.t 2), (some (21, false)), []⟩, ⟨(some 23), 25, .len false (.t 22), (some (21, false)), []⟩, ⟨(some 24), 26, .bin .gtr (.t 23) (.c (.i .i64 12)), (some (21, false)), []⟩, ⟨(some 25), 27, .pick (.t 21) (.c (.b true)) (.t 24), none, []⟩])
 (.cond (.t 25)
 (.seq (.ops [⟨(some 26), 28, .mv (.t 7), none, []⟩, ⟨(some 6), 8, .mv (.t 26), none, []⟩])
 .ret)
 .skip))
 (.seq (.seq (.ops [⟨(some 27), 29, .faddr 2 1 (.t 3), none, []⟩, ⟨(some 28), 30, .load false 1 (.t 27), none, []⟩, ⟨(some 29), 31, .len false (.t 28), none, []⟩, ⟨(some 30), 32, .mv (.c (.i .i64 0)), none, []⟩])
 (.block 0 (.loop (.seq (.ops [⟨(some 31), 33, .bin .lss (.t 30) (.t 29), none, []⟩])
 (.seq (.cond (.t 31)
 .skip
 (.exit 0))
 (.seq (.block 1 (.seq (.ops [⟨(some 32), 34, .mv (.t 30), none, []⟩, ⟨(some 8), 10, .mv (.t 32), none, []⟩])
 (.seq (.ops [⟨(some 33), 35, .faddr 2 1 (.t 3), none, []⟩, ⟨(some 34), 36, .load false 1 (.t 33), none, []⟩, ⟨(some 35), 37, .mv (.t 8), none, []⟩, ⟨(some 36), 38, .iaddr 3 (.t 34) (.t 35), none, []⟩, ⟨(some 9), 11, .box 1 (.c .np), none, []⟩, ⟨none, 1007005, .store 1 (.t 9) (.t 36), none, []⟩])
 (.seq (.ops [⟨(some 37), 39, .mv (.t 1), none, []⟩, ⟨(some 38), 40, .mkfn 72 [(.t 9)], none, []⟩, ⟨(some 39), 41, .call 71 [((.t 37), 0), ((.t 38), 0)], none, []⟩, ⟨(some 10), 12, .mv (.t 39), none, []⟩])
 (.seq (.ops [⟨(some 40), 42, .mv (.t 10), none, []⟩, ⟨(some 41), 43, .un .not (.t 40), none, []⟩, ⟨(some 42), 44, .mv (.t 41), none, []⟩, ⟨(some 43), 45, .mv (.t 2), (some (42, true)), []⟩, ⟨(some 44), 46, .mkfn 74 [(.t 9)], (some (42, true)), []⟩, ⟨(some 45), 47, .call 71 [((.t 43), 0), ((.t 44), 0)], (some (42, true)), []⟩, ⟨(some 46), 48, .un .not (.t 45), (some (42, true)), []⟩, ⟨(some 47), 49, .pick (.t 42) (.t 46) (.c (.b false)), none, []⟩])
 (.cond (.t 47)
 (.ops [⟨(some 48), 50, .mv (.t 7), none, []⟩, ⟨(some 49), 51, .load false 1 (.t 9), none, []⟩, ⟨(some 50), 52, .nilck (.t 49), none, []⟩, ⟨(some 51), 53, .faddr 1 1 (.t 50), none, []⟩, ⟨(some 52), 54, .load false 1 (.t 51), none, []⟩, ⟨(some 53), 55, .app 2 16 (.t 48) (.t 52), none, []⟩, ⟨(some 7), 9, .mv (.t 53), none, []⟩])
 .skip))))))
 (.ops [⟨(some 54), 56, .bin .add (.t 30) (.c (.i .i64 1)), none, []⟩, ⟨(some 30), 32, .mv (.t 54), none, []⟩])))))))
 (.seq (.ops [⟨(some 55), 57, .mv (.t 7), none, []⟩, ⟨(some 6), 8, .mv (.t 55), none, []⟩])
 .ret)))))
theorem k27 : compCode Try.prog Try.f27.ntmps Try.f27.body.get! = some c27 := by kernel_rfl
theorem r27 : resTmps Try.prog Try.f27.results.toList = some [.tmp 6] := by kernel_rfl
def fitsT (wi wo : List Int) (t : TableP) : Bool := decide (∀ c ∈ wi, c ∈ t.1) && decide (∀ c ∈ wo, c ∉ t.1)
def matL (wi wo : List Int) (ts : List TableP) : List (Int × Int) := ts.flatMap fun t => if fitsT wi wo t then t.2.1 else []
def matchF (ts : List TableP) (wi wo : List Int) : List (Int × Int) := if 40 < ts.length ∨ 12 < wi.length ∨ 12 < wo.length then [] else matL wi wo ts
theorem matL_at {wi wo : List Int} {ts : List TableP} {t : TableP} {j : Nat} (h : ts[j]? = some t) : matL wi wo (ts.take (j + 1)) = matL wi wo (ts.take j) ++ (if fitsT wi wo t then t.2.1 else []) := by
 rw [take_snoc h]; simp [matL]
def nR (t : TableP) : Nat := t.2.1.length
theorem matL_len (wi wo : List Int) (ts : List TableP) : (matL wi wo ts).length ≤ sumN nR ts := by
 induction ts with
 | nil => simp [matL, sumN]
 | cons t ts ih =>
  have : matL wi wo (t :: ts) = (if fitsT wi wo t then t.2.1 else []) ++ matL wi wo ts := rfl
  rw [this, List.length_append]
  simp only [sumN, nR]
  split
  ·omega
  ·simp; omega
theorem w72 (c : Int) (t : TableP) (h : t.1.length ≤ 2^40) : Contract Try.prog false 72 [.ro, .ro] [.i .i64 c, .po false [.po false (tbT t)]] [.b (decide (c ∉ t.1))] [] := by
 refine mk_contract [] Try.func72 (c := Try.f72.body.get!) (by kernel_rfl) k72 r72 (of_decide_eq_true rfl) fun _ => ?_
 unfold c72; simp
 refine callW_ms [.ro, .ro] ?_
 simp
 refine callX_of (w73 t.1 c h) (by simp) ?_
 simp
theorem w74 (c : Int) (t : TableP) (h : t.1.length ≤ 2^40) : Contract Try.prog false 74 [.ro, .ro] [.i .i64 c, .po false [.po false (tbT t)]] [.b (decide (c ∈ t.1))] [] := by
 refine mk_contract [] Try.func74 (c := Try.f74.body.get!) (by kernel_rfl) k74 r74 (of_decide_eq_true rfl) fun _ => ?_
 unfold c74; simp
 refine callW_ms [.ro, .ro] ?_
 simp
 refine callX_of (w73 t.1 c h) (by simp) ?_
 simp
theorem w111 (L : List Int) (g : Nat) (t : TableP) (p : Int → Bool) (hg : callable Try.prog g = true) (hC : ∀ y, Contract Try.prog false g [.ro, .ro] [.i .i64 y, .po false [.po false (tbT t)]] [.b (p y)] []) (hL : L.length ≤ 2^40) : Contract Try.prog false 111 [.ro, .ro] [.sl false 1 (L.map iT), .fn g [.po false [.po false (tbT t)]]] [.i .i64 (idxP p L)] [] := by
 refine mk_contract [] Try.func111 (c := Try.f111.body.get!) (by kernel_rfl) k111 r111 (of_decide_eq_true rfl) fun _ => ?_
 unfold c111; simp
 refine twp_for L.length (fun j s => s.t 0 = .sl false 1 (L.map iT) ∧ s.t 1 = .fn g [.po false [.po false (tbT t)]] ∧ s.t 7 = .i .i64 L.length ∧ s.t 8 = .i .i64 j ∧ (∀ y ∈ L.take j, p y = false) ∧ s.H = lk [(1, [])]) [] (by simp) ?_ ?_
 ·simp
 ·rintro j s hj ⟨q0, q1, q7, q8, hn, qH⟩
  rw [nf_of qH]
  simp [q0, q1, q7, q8]
  refine ⟨fun hlt => ?_, fun hge => ?_⟩
  ·have hw : IntKind.i64.wrap (j + 1) = j + 1 := wrap_id (by omega) (by omega)
   obtain ⟨y, hy⟩ := get_some hlt
   simp [hy, hw, q0, q1, q7, q8]
   refine ⟨hg, ?_⟩
   have hC := hC y
   cases hb : p y with
   | true =>
    rw [hb] at hC
    refine callW_ms [.ro, .ro] ?_
    simp
    refine callX_of hC (by simp) ?_
    simp [hw, q0, q1, q7, q8]
    exact (idxP_at hy hb hn).symm
   | false =>
    rw [hb] at hC
    refine callW_ms [.ro, .ro] ?_
    simp
    refine callX_of hC (by simp) ?_
    simp [hw, q0, q1, q7, q8]
    refine ⟨hlt, fun a hab => ?_⟩
    rw [take_snoc hy, List.mem_append, List.mem_singleton] at hab
    rcases hab with hab | rfl
    ·exact hn _ hab
    ·exact hb
  ·obtain rfl : j = L.length := by omega
   rw [List.take_of_length_le (Nat.le_refl _)] at hn
   exact (idxP_none hn).symm
theorem w71 (L : List Int) (g : Nat) (t : TableP) (p : Int → Bool) (hg : callable Try.prog g = true) (hC : ∀ y, Contract Try.prog false g [.ro, .ro] [.i .i64 y, .po false [.po false (tbT t)]] [.b (p y)] []) (hL : L.length ≤ 2^40) : Contract Try.prog false 71 [.ro, .ro] [.sl false 1 (L.map iT), .fn g [.po false [.po false (tbT t)]]] [.b (decide (∃ y ∈ L, p y = true))] [] := by
 refine mk_contract [] Try.func71 (c := Try.f71.body.get!) (by kernel_rfl) k71 r71 (of_decide_eq_true rfl) fun _ => ?_
 unfold c71; simp
 refine callW_ms [.ro, .ro] ?_
 simp
 refine callX_of (w111 L g t p hg hC hL) (by simp) ?_
 simp [idxP_ge]
theorem w27 (w : WorldP) (wi wo : List Int) (h : okW w) (h1 : wi.length ≤ 2^40) (h2 : wo.length ≤ 2^40) (hs : sumN nR w.2.2.1 ≤ 2^36) : Contract Try.prog false 27 [.ro, .ro, .ro] [worldR w.1 w.2.1 w.2.2.1 w.2.2.2, .sl false 1 (wi.map iT), .sl false 1 (wo.map iT)] [.sl true 2 ((matchF w.2.2.1 wi wo).map eT)] [] := by
 refine mk_contract [] Try.func27 (c := Try.f27.body.get!) (by kernel_rfl) k27 r27 (of_decide_eq_true rfl) fun _ => ?_
 obtain ⟨b1, b2, ⟨b3, b4⟩, b5⟩ := h
 obtain ⟨g, f, ts, rs⟩ := w
 simp only at b1 b2 b3 b4 b5 hs ⊢
 unfold c27; simp
 by_cases k1 : 40 < ts.length
 ·have k1' : (40 : Int) < ts.length := by omega
  simp [k1', matchF, k1]
 have k1' : ¬ (40 : Int) < ts.length := by omega
 by_cases k2 : 12 < wi.length
 ·have k2' : (12 : Int) < wi.length := by omega
  simp [k1', k2', matchF, k2]
 have k2' : ¬ (12 : Int) < wi.length := by omega
 by_cases k3 : 12 < wo.length
 ·have k3' : (12 : Int) < wo.length := by omega
  simp [k1', k2', k3', matchF, k3]
 have k3' : ¬ (12 : Int) < wo.length := by omega
 have hM : matchF ts wi wo = matL wi wo ts := by unfold matchF; rw [if_neg (by omega)]
 rw [hM]
 simp [k1', k2', k3']
 refine twp_forR ts.length (fun j s => s.t 1 = .sl false 1 (wi.map iT) ∧ s.t 2 = .sl false 1 (wo.map iT) ∧ s.t 3 = .pt [(5, 0)] 0 0 ∧ s.t 7 = .rf [(55, 0)] 0 (matL wi wo (ts.take j)).length ∧ s.t 29 = .i .i64 ts.length ∧ s.t 30 = .i .i64 j ∧ s.H = lk [(1, []), (5, [.po true [.sl false 1 (g.map iT), .sl false 1 (f.map iT), .sl false 3 (ts.map tbT), .sl false 4 (rs.map vT)]]), (55, [.sl true 2 ((matL wi wo (ts.take j)).map eT)])]) [11] [(13, 55)] (by simp) (by simp) ?_ ?_
 ·simp [matL]
 ·rintro j s hj ⟨q1, q2, q3, q7, q29, q30, qH⟩
  rw [nf_of qH]
  simp [q1, q2, q3, q7, q29, q30]
  refine ⟨fun hlt => ?_, fun hge => ?_⟩
  ·have hw : IntKind.i64.wrap (j + 1) = j + 1 := wrap_id (by omega) (by omega)
   obtain ⟨t, ht⟩ := get_some hlt
   have mt := List.mem_of_getElem? ht
   have hat := @matL_at wi wo ts t j ht
   have hlen := matL_len wi wo (ts.take (j + 1))
   have hlen2 := sumN_take nR ts (j + 1)
   have ht1 : t.1.length ≤ 2^40 := by have := (b4 t mt).1; omega
   simp [ht, hw, q1, q2, q3, q7, q29, q30]
   by_cases p1 : ∃ y ∈ wi, (fun c => decide (c ∉ t.1)) y = true
   ·have hfit : fitsT wi wo t = false := by
     obtain ⟨y, y1, y2⟩ := p1
     have : ¬ ∀ c ∈ wi, c ∈ t.1 := fun h => by simp at y2; exact y2 (h y y1)
     unfold fitsT; rw [decide_eq_false this]; rfl
    rw [hfit] at hat
    simp at hat
    refine callW_ms [.ro, .ro] ?_
    simp
    refine callX_of ((w71 wi 72 t (fun c => decide (c ∉ t.1)) (by kernel_rfl) (fun c => w72 c t ht1) h1).t p1) (by simp) ?_
    simp [hw, q1, q2, q3, q7, q29, q30, hat]
    exact hlt
   ·by_cases p2 : ∃ y ∈ wo, (fun c => decide (c ∈ t.1)) y = true
    ·have hfit : fitsT wi wo t = false := by
      obtain ⟨y, y1, y2⟩ := p2
      have : ¬ ∀ c ∈ wo, c ∉ t.1 := fun h => h y y1 (by simpa using y2)
      unfold fitsT; rw [decide_eq_false this, Bool.and_false]
     rw [hfit] at hat
     simp at hat
     refine callW_ms [.ro, .ro] ?_
     simp
     refine callX_of ((w71 wi 72 t (fun c => decide (c ∉ t.1)) (by kernel_rfl) (fun c => w72 c t ht1) h1).f p1) (by simp) ?_
     simp [q1, q2, q3, q7, q29, q30]
     refine callW_ms [.ro, .ro] ?_
     simp
     refine callX_of ((w71 wo 74 t (fun c => decide (c ∈ t.1)) (by kernel_rfl) (fun c => w74 c t ht1) h2).t p2) (by simp) ?_
     simp [hw, q1, q2, q3, q7, q29, q30, hat]
     exact hlt
    ·have hfit : fitsT wi wo t = true := by
      have q1 : ∀ c ∈ wi, c ∈ t.1 := fun c hc => Decidable.byContradiction fun h => p1 ⟨c, hc, by simpa using h⟩
      have q2 : ∀ c ∈ wo, c ∉ t.1 := fun c hc h => p2 ⟨c, hc, by simpa using h⟩
      unfold fitsT; rw [decide_eq_true q1, decide_eq_true q2]; rfl
     rw [hfit] at hat
     simp at hat
     have hl : (matL wi wo (ts.take (j + 1))).length = (matL wi wo (ts.take j)).length + t.2.1.length := by rw [hat]; simp
     refine callW_ms [.ro, .ro] ?_
     simp
     refine callX_of ((w71 wi 72 t (fun c => decide (c ∉ t.1)) (by kernel_rfl) (fun c => w72 c t ht1) h1).f p1) (by simp) ?_
     simp [q1, q2, q3, q7, q29, q30]
     refine callW_ms [.ro, .ro] ?_
     simp
     refine callX_of ((w71 wo 74 t (fun c => decide (c ∈ t.1)) (by kernel_rfl) (fun c => w74 c t ht1) h2).f p2) (by simp) ?_
     simp [hw, q1, q2, q3, q7, q29, q30, hat]
     exact ⟨by omega, hlt⟩
  ·obtain rfl : j = ts.length := by omega
   simp [q1, q2, q3, q7, q29, q30]
end Go.Proofs.YtehmdblkkpdmoaaT


namespace Go.Proofs.YtehmdblkkpdmoaaT
set_option linter.unusedVariables false
set_option linter.unusedSimpArgs false
open Go
theorem flatR_app (A B : List TableP) : flatR (A ++ B) = flatR A ++ flatR B := by unfold flatR; rw [List.flatMap_append]
theorem matL_app (wi wo : List Int) (A B : List TableP) : matL wi wo (A ++ B) = matL wi wo A ++ matL wi wo B := by unfold matL; rw [List.flatMap_append]
theorem matL_sub {wi wo : List Int} {ts : List TableP} {x : Int × Int} (h : x ∈ matL wi wo ts) : x ∈ flatR ts := by
 unfold matL at h
 obtain ⟨t, ht, hx⟩ := List.mem_flatMap.1 h
 unfold flatR
 refine List.mem_flatMap.2 ⟨t, ht, ?_⟩
 split at hx
 ·exact hx
 ·cases hx
theorem rows_nodup {g f : List Int} {rs : List (Int × Int)} (h : rowsG g f rs) : rs.Nodup := by
 have h2 := h.2
 unfold atsR at h2
 exact List.Pairwise.imp (fun hne he => hne (by rw [he])) (List.pairwise_map.1 h2)
theorem cnt_one {x : Int × Int} : ∀ {l : List (Int × Int)}, l.Nodup → x ∈ l → l.count x = 1
 | [], _, h => by cases h
 | y :: l, hn, h => by
  obtain ⟨h1, h2⟩ := List.nodup_cons.1 hn
  by_cases hy : y = x
  ·subst hy
   rw [List.count_cons_self, List.count_eq_zero.2 h1]
  ·rw [List.count_cons_of_ne hy]
   rcases List.mem_cons.1 h with h | h
   ·exact absurd h.symm hy
   ·exact cnt_one h2 h
theorem mat_count {wi wo : List Int} {ts : List TableP} {x : Int × Int} {j : Nat} {t : TableP} (hn : (flatR ts).Nodup) (ht : ts[j]? = some t) (hx : x ∈ t.2.1) : (matL wi wo ts).count x = if fitsT wi wo t then 1 else 0 := by
 have hjl := (List.getElem?_eq_some_iff.1 ht).1
 have e : ts = ts.take j ++ t :: ts.drop (j + 1) := by
  have h2 : ts.drop j = t :: ts.drop (j + 1) := by rw [List.drop_eq_getElem_cons hjl, (List.getElem?_eq_some_iff.1 ht).2]
  rw [← h2, List.take_append_drop]
 generalize ts.take j = A at e
 generalize ts.drop (j + 1) = B at e
 subst e
 have e2 : flatR (A ++ t :: B) = flatR A ++ (t.2.1 ++ flatR B) := by rw [flatR_app]; rfl
 rw [e2] at hn
 obtain ⟨_, h2, h3⟩ := List.nodup_append.1 hn
 obtain ⟨h4, _, h5⟩ := List.nodup_append.1 h2
 have hA : (matL wi wo A).count x = 0 := List.count_eq_zero.2 fun h => h3 x (matL_sub h) x (List.mem_append_left _ hx) rfl
 have hB : (matL wi wo B).count x = 0 := List.count_eq_zero.2 fun h => h5 x hx x (matL_sub h) rfl
 have e3 : matL wi wo (A ++ t :: B) = matL wi wo A ++ ((if fitsT wi wo t then t.2.1 else []) ++ matL wi wo B) := by rw [matL_app]; rfl
 rw [e3, List.count_append, List.count_append, hA, hB]
 split
 ·rw [cnt_one h4 hx]
 ·simp
theorem get_at {c r d : DeclsP} {w : WorldP} {x : Int × Int} (hw : WorldOkP c r d w) (hl : liveP w.1 w.2.1 x.1 x.2) : ∃ (j : Nat) (t : TableP), w.2.2.1[j]? = some t ∧ x ∈ t.2.1 ∧ ∀ comp, ((getP c r d w x comp).2 = true ↔ comp ∈ t.1) := by
 obtain ⟨j, k, t, hj, hk, hwj⟩ := where_row 0 (live_row hw.1.2.1 hw.2.2.2.2 hl)
 rw [Nat.zero_add] at hwj
 have htb := hw.2.2.1 t (List.mem_of_getElem? hj)
 refine ⟨j, t, hj, List.mem_of_getElem? hk, fun comp => ?_⟩
 unfold getP getF
 rw [if_pos ⟨hw, hl⟩, cellF_at hj hwj]
 unfold cellIn
 rw [← idxF_ge]
 by_cases h0 : 0 ≤ idxF t.1 comp
 ·obtain ⟨vs, hvs⟩ : ∃ vs, t.2.2[(idxF t.1 comp).toNat]? = some vs := get_some (by rw [htb.2.1]; exact idx_lt h0)
  have hvl := tab_vals htb vs (List.mem_of_getElem? hvs)
  have hkl := (List.getElem?_eq_some_iff.1 hk).1
  obtain ⟨v, hv⟩ : ∃ v, vs[k]? = some v := get_some (by omega)
  rw [if_pos h0, hvs]
  simp [hv, h0]
 ·rw [if_neg h0]
  simp [h0]
theorem times_of {c r d : DeclsP} {w : WorldP} {x : Int × Int} {k comp : Int} {wi : List Int} (hw : WorldOkP c r d w) (hl : liveP w.1 w.2.1 x.1 x.2) (hwi : wi = [] ∨ wi = [comp]) :
  (matL wi [k] w.2.2.1).count x = if (!(getP c r d w x k).2 && (wi.isEmpty || (getP c r d w x comp).2)) = true then 1 else 0 := by
 obtain ⟨j, t, hj, hx, hg⟩ := get_at hw hl
 rw [mat_count (rows_nodup hw.2.2.2.2.1) hj hx]
 have hk := hg k
 have hc := hg comp
 have e : fitsT wi [k] t = (!(getP c r d w x k).2 && (wi.isEmpty || (getP c r d w x comp).2)) := by
  rw [Bool.eq_iff_iff]
  unfold fitsT
  simp only [Bool.and_eq_true, decide_eq_true_eq, Bool.not_eq_true', Bool.or_eq_true]
  rw [← Bool.not_eq_true, hk, hc]
  rcases hwi with rfl | rfl
  ·simp
  ·simp; exact And.comm
 rw [e]
def sumC (M : List (Int × Int)) (l : List (Int × Int)) : Nat := (l.map fun x => M.count x).sum
theorem sumC_snoc (M : List (Int × Int)) {L : List (Int × Int)} {j : Nat} {x : Int × Int} (h : L[j]? = some x) : sumC M (L.take (j + 1)) = sumC M (L.take j) + M.count x := by
 unfold sumC; rw [take_snoc h]; simp
theorem sum_one {m : Int × Int} : ∀ {L : List (Int × Int)}, L.Nodup → m ∈ L → (L.map fun x => if m == x then 1 else 0).sum = 1
 | [], _, h => by cases h
 | y :: L, hn, h => by
  obtain ⟨h1, h2⟩ := List.nodup_cons.1 hn
  have hz : ∀ {l : List (Int × Int)}, m ∉ l → (l.map fun x => if m == x then 1 else 0).sum = 0 := by
   intro l hl
   induction l with
   | nil => rfl
   | cons z l ih =>
    simp only [List.map_cons, List.sum_cons]
    rw [ih fun hh => hl (by simp [hh])]
    have : (m == z) = false := by rw [beq_eq_false_iff_ne]; rintro rfl; exact hl (by simp)
    simp [this]
  simp only [List.map_cons, List.sum_cons]
  by_cases hy : m = y
  ·subst hy
   rw [hz h1]; simp
  ·rcases List.mem_cons.1 h with h | h
   ·exact absurd h hy
   ·rw [sum_one h2 h]
    have : (m == y) = false := by rw [beq_eq_false_iff_ne]; exact hy
    simp [this]
theorem sum_zero (l : List (Int × Int)) : (l.map fun _ => 0).sum = 0 := by
 induction l with
 | nil => rfl
 | cons y l ih => simp only [List.map_cons, List.sum_cons]; omega
theorem sum_add (l : List (Int × Int)) (p q : Int × Int → Nat) : (l.map fun x => p x + q x).sum = (l.map p).sum + (l.map q).sum := by
 induction l with
 | nil => rfl
 | cons y l ih => simp only [List.map_cons, List.sum_cons]; omega
theorem sumC_all {L : List (Int × Int)} (hn : L.Nodup) : ∀ {M : List (Int × Int)}, (∀ x ∈ M, x ∈ L) → sumC M L = M.length
 | [], _ => by
  unfold sumC
  simp only [List.count_nil, List.length_nil]
  exact sum_zero L
 | m :: M, h => by
  have ih := sumC_all hn (M := M) fun x hx => h x (by simp [hx])
  have h1 := sum_one hn (h m (by simp))
  unfold sumC at ih ⊢
  simp only [List.count_cons]
  rw [sum_add, ih, h1, List.length_cons]
theorem live_nodup (g f : List Int) : ∀ n : Nat, (liveG g f n).Nodup ∧ ∀ x ∈ liveG g f n, x.1 < n
 | 0 => ⟨List.nodup_nil, fun x h => by cases h⟩
 | n + 1 => by
  obtain ⟨h1, h2⟩ := live_nodup g f n
  simp only [liveG]
  split
  ·rw [List.append_nil]
   exact ⟨h1, fun x hx => by have := h2 x hx; omega⟩
  ·refine ⟨List.nodup_append.2 ⟨h1, by simp, fun a ha b hb => ?_⟩, fun x hx => ?_⟩
   ·rw [List.mem_singleton.1 hb]
    rintro rfl
    have := h2 _ ha
    simp at this
   ·rcases List.mem_append.1 hx with hx | hx
    ·have := h2 x hx; omega
    ·rw [List.mem_singleton.1 hx]; simp only; omega
theorem liv_iff {g f : List Int} (n : Nat) (hn : n ≤ g.length) (x : Int × Int) : x ∈ liveG g f n ↔ (0 ≤ x.1 ∧ x.1 < n) ∧ g[x.1.toNat]? = some x.2 ∧ x.1 ∉ f := by
 induction n with
 | zero => simp [liveG]; omega
 | succ n ih =>
  have ih := ih (by omega)
  obtain ⟨y, hy⟩ : ∃ y, g[n]? = some y := get_some (by omega)
  simp only [liveG, List.mem_append, ih]
  obtain ⟨a, b⟩ := x
  simp only at ih ⊢
  split
  ·rename_i hf
   simp only [List.not_mem_nil, or_false]
   constructor
   ·rintro ⟨h1, h2⟩; exact ⟨by omega, h2⟩
   ·rintro ⟨h1, h2, h3⟩
    refine ⟨⟨h1.1, ?_⟩, h2, h3⟩
    have : a ≠ n := by rintro rfl; exact h3 hf
    omega
  ·rename_i hf
   simp only [List.mem_singleton, Prod.mk.injEq, hy, Option.getD_some]
   constructor
   ·rintro (⟨h1, h2⟩ | ⟨rfl, rfl⟩)
    ·exact ⟨by omega, h2⟩
    ·exact ⟨by omega, by simpa using hy, hf⟩
   ·rintro ⟨h1, h2, h3⟩
    by_cases ha : a = n
    ·subst ha
     right
     simp [hy] at h2
     exact ⟨rfl, h2.symm⟩
    ·left
     exact ⟨⟨h1.1, by omega⟩, h2, h3⟩
theorem live_all {g f : List Int} (x : Int × Int) : x ∈ liveG g f g.length ↔ liveP g f x.1 x.2 := by
 rw [liv_iff g.length (Nat.le_refl _)]
 unfold liveP
 constructor
 ·rintro ⟨h1, h2⟩; exact ⟨by omega, h2⟩
 ·rintro ⟨h1, h2⟩; exact ⟨by omega, h2⟩
end Go.Proofs.YtehmdblkkpdmoaaT


namespace Go.Proofs.YtehmdblkkpdmoaaT
set_option linter.unusedVariables false
set_option linter.unusedSimpArgs false
open Go
end Go.Proofs.YtehmdblkkpdmoaaT


namespace Go.Proofs.YtehmdblkkpdmoaaT
set_option linter.unusedVariables false
set_option linter.unusedSimpArgs false
open Go
def c146 : TCode := (.seq (.ops [⟨(some 3), 5, .box 4 (.t 0), none, []⟩, ⟨(some 6), 8, .box 4 (.c (.ag [(.sl true 1 []), (.sl true 1 []), (.sl true 3 []), (.sl true 4 [])])), none, []⟩])
 (.seq (.ops [⟨(some 9), 11, .faddr 2 1 (.t 3), none, []⟩, ⟨(some 10), 12, .load false 1 (.t 9), none, []⟩, ⟨(some 11), 13, .mv (.t 1), none, []⟩, ⟨(some 12), 14, .iaddr 3 (.t 10) (.t 11), none, []⟩, ⟨(some 13), 15, .faddr 1 1 (.t 12), none, []⟩, ⟨(some 14), 16, .load false 1 (.t 13), none, []⟩, ⟨(some 15), 17, .len false (.t 14), none, []⟩, ⟨(some 16), 18, .bin .sub (.t 15) (.c (.i .i64 1)), none, []⟩, ⟨(some 7), 9, .mv (.t 16), none, []⟩])
 (.seq (.draw [⟨(some 17), 19, .faddr 2 1 (.t 3), none, []⟩, ⟨(some 18), 20, .load false 1 (.t 17), none, []⟩, ⟨(some 19), 21, .mv (.t 1), none, []⟩, ⟨(some 20), 22, .iaddr 3 (.t 18) (.t 19), none, []⟩, ⟨(some 21), 23, .faddr 1 1 (.t 20), none, []⟩, ⟨(some 22), 24, .load false 1 (.t 21), none, []⟩, ⟨(some 23), 25, .mv (.t 2), none, []⟩, ⟨(some 24), 26, .faddr 2 1 (.t 3), none, []⟩, ⟨(some 25), 27, .load false 1 (.t 24), none, []⟩, ⟨(some 26), 28, .mv (.t 1), none, []⟩, ⟨(some 27), 29, .iaddr 3 (.t 25) (.t 26), none, []⟩, ⟨(some 28), 30, .faddr 1 1 (.t 27), none, []⟩, ⟨(some 29), 31, .load false 1 (.t 28), none, []⟩, ⟨(some 30), 32, .mv (.t 7), none, []⟩, ⟨(some 31), 33, .iaddr 2 (.t 29) (.t 30), none, []⟩, ⟨(some 32), 34, .load true 2 (.t 31), none, []⟩, ⟨(some 33), 35, .iaddr 2 (.t 22) (.t 23), none, []⟩, ⟨none, 1002017, .store 2 (.t 33) (.t 32), none, []⟩])
 (.seq (.draw [⟨(some 34), 36, .faddr 2 1 (.t 3), none, []⟩, ⟨(some 35), 37, .load false 1 (.t 34), none, []⟩, ⟨(some 36), 38, .mv (.t 1), none, []⟩, ⟨(some 37), 39, .faddr 2 1 (.t 3), none, []⟩, ⟨(some 38), 40, .load false 1 (.t 37), none, []⟩, ⟨(some 39), 41, .mv (.t 1), none, []⟩, ⟨(some 40), 42, .iaddr 3 (.t 38) (.t 39), none, []⟩, ⟨(some 41), 43, .faddr 1 1 (.t 40), none, []⟩, ⟨(some 42), 44, .load false 1 (.t 41), none, []⟩, ⟨(some 43), 45, .mv (.t 7), none, []⟩, ⟨(some 44), 46, .slice false 2 (.t 42) none (some (.t 43)), none, []⟩, ⟨(some 45), 47, .iaddr 3 (.t 35) (.t 36), none, []⟩, ⟨(some 46), 48, .faddr 1 1 (.t 45), none, []⟩, ⟨none, 1003013, .store 1 (.t 46) (.t 44), none, []⟩])
 (.seq (.seq (.ops [⟨(some 8), 10, .mv (.c (.i .i64 0)), none, []⟩])
 (.block 0 (.loop (.seq (.seq (.ops [⟨(some 47), 49, .mv (.t 8), none, []⟩, ⟨(some 48), 50, .faddr 2 1 (.t 3), none, []⟩, ⟨(some 49), 51, .load false 1 (.t 48), none, []⟩, ⟨(some 50), 52, .mv (.t 1), none, []⟩, ⟨(some 51), 53, .iaddr 3 (.t 49) (.t 50), none, []⟩, ⟨(some 52), 54, .faddr 2 1 (.t 51), none, []⟩, ⟨(some 53), 55, .load false 1 (.t 52), none, []⟩, ⟨(some 54), 56, .len false (.t 53), none, []⟩, ⟨(some 55), 57, .bin .lss (.t 47) (.t 54), none, []⟩])
 (.cond (.t 55)
 .skip
 (.exit 0)))
 (.seq (.block 1 (.seq (.draw [⟨(some 58), 60, .faddr 2 1 (.t 3), none, []⟩, ⟨(some 59), 61, .load false 1 (.t 58), none, []⟩, ⟨(some 60), 62, .mv (.t 1), none, []⟩, ⟨(some 61), 63, .iaddr 3 (.t 59) (.t 60), none, []⟩, ⟨(some 62), 64, .faddr 2 1 (.t 61), none, []⟩, ⟨(some 63), 65, .load false 1 (.t 62), none, []⟩, ⟨(some 64), 66, .mv (.t 8), none, []⟩, ⟨(some 65), 67, .iaddr 1 (.t 63) (.t 64), none, []⟩, ⟨(some 66), 68, .load false 1 (.t 65), none, []⟩, ⟨(some 67), 69, .mv (.t 2), none, []⟩, ⟨(some 68), 70, .faddr 2 1 (.t 3), none, []⟩, ⟨(some 69), 71, .load false 1 (.t 68), none, []⟩, ⟨(some 70), 72, .mv (.t 1), none, []⟩, ⟨(some 71), 73, .iaddr 3 (.t 69) (.t 70), none, []⟩, ⟨(some 72), 74, .faddr 2 1 (.t 71), none, []⟩, ⟨(some 73), 75, .load false 1 (.t 72), none, []⟩, ⟨(some 74), 76, .mv (.t 8), none, []⟩, ⟨(some 75), 77, .iaddr 1 (.t 73) (.t 74), none, []⟩, ⟨(some 76), 78, .load false 1 (.t 75), none, []⟩, ⟨(some 77), 79, .mv (.t 7), none, []⟩, ⟨(some 78), 80, .iaddr 4 (.t 76) (.t 77), none, []⟩, ⟨(some 79), 81, .load true 4 (.t 78), none, []⟩, ⟨(some 80), 82, .iaddr 4 (.t 66) (.t 67), none, []⟩, ⟨none, 1007023, .store 4 (.t 80) (.t 79), none, []⟩])
 (.draw [⟨(some 81), 83, .faddr 2 1 (.t 3), none, []⟩, ⟨(some 82), 84, .load false 1 (.t 81), none, []⟩, ⟨(some 83), 85, .mv (.t 1), none, []⟩, ⟨(some 84), 86, .iaddr 3 (.t 82) (.t 83), none, []⟩, ⟨(some 85), 87, .faddr 2 1 (.t 84), none, []⟩, ⟨(some 86), 88, .load false 1 (.t 85), none, []⟩, ⟨(some 87), 89, .mv (.t 8), none, []⟩, ⟨(some 88), 90, .faddr 2 1 (.t 3), none, []⟩, ⟨(some 89), 91, .load false 1 (.t 88), none, []⟩, ⟨(some 90), 92, .mv (.t 1), none, []⟩, ⟨(some 91), 93, .iaddr 3 (.t 89) (.t 90), none, []⟩, ⟨(some 92), 94, .faddr 2 1 (.t 91), none, []⟩, ⟨(some 93), 95, .load false 1 (.t 92), none, []⟩, ⟨(some 94), 96, .mv (.t 8), none, []⟩, ⟨(some 95), 97, .iaddr 1 (.t 93) (.t 94), none, []⟩, ⟨(some 96), 98, .load false 1 (.t 95), none, []⟩, ⟨(some 97), 99, .mv (.t 7), none, []⟩, ⟨(some 98), 100, .slice false 4 (.t 96) none (some (.t 97)), none, []⟩, ⟨(some 99), 101, .iaddr 1 (.t 86) (.t 87), none, []⟩, ⟨none, 1008019, .store 1 (.t 99) (.t 98), none, []⟩])))
 (.ops [⟨(some 56), 58, .mv (.t 8), none, []⟩, ⟨(some 57), 59, .bin .add (.t 56) (.c (.i .i64 1)), none, []⟩, ⟨(some 8), 10, .mv (.t 57), none, []⟩]))))))
 (.seq (.ops [⟨(some 100), 102, .load true 4 (.t 3), none, []⟩, ⟨none, 1009001, .store 4 (.t 6) (.t 100), none, []⟩])
 .ret))))))
theorem k146 : compCode Try.prog Try.f146.ntmps Try.f146.body.get! = some c146 := by kernel_rfl
theorem r146 : resTmps Try.prog Try.f146.results.toList = some [.cell 6 true 4] := by kernel_rfl
def leaveL {α : Type} (l : List α) (k : Nat) : List α := match l[l.length - 1]? with
 | some z => (l.set k z).take (l.length - 1)
 | none => []
theorem leaveL_some {α : Type} {l : List α} {k : Nat} {z : α} (h : l[l.length - 1]? = some z) : leaveL l k = (l.set k z).take (l.length - 1) := by unfold leaveL; rw [h]
theorem leaveL_len {α : Type} {l : List α} {k : Nat} (h : 0 < l.length) : (leaveL l k).length = l.length - 1 := by
 obtain ⟨z, hz⟩ : ∃ z, l[l.length - 1]? = some z := get_some (by omega)
 rw [leaveL_some hz]; simp
def leaveT (t : TableP) (k : Nat) : TableP := (t.1, leaveL t.2.1 k, t.2.2.map fun v => leaveL v k)
theorem tk_off {α : Type} (m : Nat) (L : List α) : (L.drop (offE 0 m)).take m = L.take m := by
 by_cases h : m = 0
 ·subst h; simp
 ·have : offE 0 m = 0 := by simp [offE, h]
  rw [this, List.drop_zero]
theorem map_mod {α : Type} {f : α → List TV} {l : List α} {k : Nat} {y z : α} {φ : List TV → List TV} (hy : l[k]? = some y) (h : φ (f y) = f z) : (l.map f).modify k φ = (l.set k z).map f := by
 apply List.ext_getElem?
 intro i
 by_cases hi : i = k
 ·subst hi
  have hl := (List.getElem?_eq_some_iff.1 hy).1
  have e := (List.getElem?_eq_some_iff.1 hy).2
  simp [List.getElem?_modify, hl, List.getElem?_set_self]
  rw [e]; exact h
 ·simp [List.getElem?_modify, List.getElem?_set_ne (Ne.symm hi), hi, Ne.symm hi]
theorem mod_mod {α : Type} (l : List α) (k : Nat) (φ ψ : α → α) : (l.modify k φ).modify k ψ = l.modify k (fun x => ψ (φ x)) := by
 apply List.ext_getElem?
 intro i
 simp only [List.getElem?_modify]
 by_cases hi : k = i
 ·simp [hi]; rfl
 ·simp [hi]
theorem mod_eT {l : List (Int × Int)} {k : Nat} {y : Int × Int} (z : Int × Int) (hy : l[k]? = some y) :
  ((l.map eT).modify k fun e => e.modify 0 fun x => TV.i .i64 z.1).modify k (fun e => e.modify 1 fun x => TV.i .i64 z.2) = (l.set k z).map eT := by
 rw [mod_mod]
 exact map_mod hy rfl
theorem mod_vT {l : List ValP} {k : Nat} {y : ValP} (z : ValP) (hy : l[k]? = some y) :
  ((((l.map vT).modify k fun e => e.modify 0 fun x => TV.i .i64 z.1).modify k fun e => e.modify 1 fun x => TV.i .i64 z.2.1).modify k fun e => e.modify 2 fun x => TV.f z.2.2.1).modify k (fun e => e.modify 3 fun x => TV.f z.2.2.2) = (l.set k z).map vT := by
 rw [mod_mod, mod_mod, mod_mod]
 exact map_mod hy rfl
def lvd (C : List (List ValP)) (k j : Nat) (L : List (List ValP)) : Prop := L = (C.take j).map fun v => leaveL v k
set_option maxRecDepth 100000 in
theorem w146 (g f : List Int) (A B : List TableP) (t : TableP) (rs : List ValP) (k : Nat) (hA : A.length ≤ 2^36) (hB : B.length ≤ 2^36) (hk : k < t.2.1.length) (hl : t.2.1.length ≤ 2^36) (hc : t.2.2.length ≤ 2^36) (hv : ∀ v ∈ t.2.2, v.length = t.2.1.length) : Contract Try.prog false 146 [.own, .ro, .ro] [worldO g f (A ++ t :: B) rs, .i .i64 A.length, .i .i64 k] [worldO g f (A ++ leaveT t k :: B) rs] [none, none, none, none] := by
 refine mk_contract [none, none, none, none] Try.func146 (c := Try.f146.body.get!) (by kernel_rfl) k146 r146 (of_decide_eq_true rfl) fun _ => ?_
 obtain ⟨t1, t2, t3⟩ := t
 simp only [leaveT] at hk hl hc hv ⊢
 obtain ⟨z, hz⟩ : ∃ z, t2[t2.length - 1]? = some z := get_some (by omega)
 obtain ⟨y, hy⟩ : ∃ y, t2[k]? = some y := get_some hk
 rw [leaveL_some hz]
 have hw1 : IntKind.i64.wrap ((t2.length : Int) - 1) = ((t2.length - 1 : Nat) : Int) := by rw [wrap_id (by omega) (by omega)]; omega
 unfold c146; simp [hw1, hz, hy, hk]
 refine ⟨by omega, by omega, by omega, ?_⟩
 rw [tk_off, mod_eT z hy]
 obtain ⟨R, hR⟩ : ∃ R, R = (t2.set k z).take (t2.length - 1) := ⟨_, rfl⟩
 rw [← List.map_take, ← hR]
 refine twp_for t3.length (fun j s => ∃ (L : List (List ValP)), lvd t3 k j L ∧ L.length = j ∧ s.t 1 = .i .i64 A.length ∧ s.t 2 = .i .i64 k ∧ s.t 3 = .pt [(5, 0)] 0 0 ∧ s.t 6 = .pt [(8, 0)] 0 0 ∧ s.t 7 = .i .i64 ((t2.length - 1 : Nat) : Int) ∧ s.t 8 = .i .i64 j ∧ s.H = lk [(1, [.junk, .junk, .junk, .junk]), (5, [.po true [.sl true 1 (g.map iT), .sl true 1 (f.map iT), .sl true 3 (A.map tbO ++ [.sl true 1 (t1.map iT), .sl true 2 (R.map eT), .sl true 1 (L.map cvO ++ (t3.map cvO).drop j)] :: B.map tbO), .sl true 4 (rs.map vT)]]), (8, [.po true [.sl true 1 [], .sl true 1 [], .sl true 3 [], .sl true 4 []]])]) [] (by simp) ?_ ?_
 ·refine ⟨[], rfl, rfl, ?_⟩
  simp
 ·rintro j s hj ⟨L, hL, hLl, q1, q2, q3, q6, q7, q8, qH⟩
  rw [nf_of qH]
  have hw : IntKind.i64.wrap ((j : Int) + 1) = j + 1 := wrap_id (by omega) (by omega)
  cases hb9 : decide (j < t3.length)
  ·have hge := of_decide_eq_false hb9
   obtain rfl : j = t3.length := by omega
   have hL' : L = t3.map fun v => leaveL v k := by unfold lvd at hL; rw [hL, List.take_length]
   have hd : (t3.map cvO).drop t3.length = [] := List.drop_eq_nil_of_le (by simp)
   simp [q1, q2, q3, q6, q7, q8, hb9, hLl, hd]
   refine ⟨by omega, ?_⟩
   rw [hL', List.map_map]
  ·have hlt := of_decide_eq_true hb9
   obtain ⟨x, hx⟩ := get_some hlt
   have hxl := hv x (List.mem_of_getElem? hx)
   obtain ⟨xz, hxz⟩ : ∃ z, x[t2.length - 1]? = some z := get_some (by omega)
   obtain ⟨xy, hxy⟩ : ∃ y, x[k]? = some y := get_some (by omega)
   simp [q1, q2, q3, q6, q7, q8, hb9, hLl, drop_at hx, hw, hxz, hxy]
   refine ⟨by omega, fun _ => ⟨by omega, by omega, by omega, by omega, by omega, by omega, by omega, by omega, by omega, by omega, hlt, L ++ [leaveL x k], ?_, by simp [hLl], ?_⟩, fun h => absurd h (by omega)⟩
   ·unfold lvd at hL ⊢
    rw [hL, take_snoc hx]; simp
   ·rw [tk_off, mod_vT xz hxy]
    have hxz' : x[x.length - 1]? = some xz := by rw [hxl]; exact hxz
    simp [leaveL_some hxz', hxl]
end Go.Proofs.YtehmdblkkpdmoaaT


namespace Go.Proofs.YtehmdblkkpdmoaaT
set_option linter.unusedVariables false
set_option linter.unusedSimpArgs false
open Go
def c127 : TCode := (.seq (.ops [⟨(some 1), 3, .box 3 (.t 0), none, []⟩, ⟨(some 2), 4, .box 4 (.c (.ag [(.sl true 1 []), (.sl true 1 []), (.sl true 3 []), (.sl true 4 [])])), none, []⟩])
 (.seq (.seq (.ops [⟨(some 5), 7, .load true 3 (.t 1), none, []⟩, ⟨(some 6), 8, .call 33 [((.t 5), 0)], none, []⟩, ⟨(some 7), 9, .un .not (.t 6), none, []⟩])
 (.cond (.t 7)
 (.seq (.ops [⟨(some 8), 10, .build [(.sl true 1 []), (.sl true 1 []), (.sl true 3 []), (.sl true 4 [])] [], none, []⟩, ⟨none, 1002001, .store 4 (.t 2) (.t 8), none, []⟩])
 .ret)
 .skip))
 (.seq (.ops [⟨(some 9), 11, .build [(.sl true 1 []), (.sl true 1 []), (.sl true 3 []), (.sl true 4 [])] [], none, []⟩, ⟨(some 3), 5, .box 4 (.c (.ag [(.sl true 1 []), (.sl true 1 []), (.sl true 3 []), (.sl true 4 [])])), none, []⟩, ⟨none, 1003002, .store 4 (.t 3) (.t 9), none, []⟩])
 (.seq (.seq (.ops [⟨(some 4), 6, .mv (.c (.i .i64 0)), none, []⟩])
 (.block 0 (.loop (.seq (.seq (.ops [⟨(some 10), 12, .mv (.t 4), none, []⟩, ⟨(some 11), 13, .faddr 1 1 (.t 1), none, []⟩, ⟨(some 12), 14, .load false 1 (.t 11), none, []⟩, ⟨(some 13), 15, .len false (.t 12), none, []⟩, ⟨(some 14), 16, .bin .lss (.t 10) (.t 13), none, []⟩])
 (.cond (.t 14)
 .skip
 (.exit 0)))
 (.seq (.block 1 (.draw [⟨(some 17), 19, .faddr 3 1 (.t 3), none, []⟩, ⟨(some 18), 20, .load false 1 (.t 17), none, []⟩, ⟨(some 19), 21, .faddr 1 1 (.t 1), none, []⟩, ⟨(some 20), 22, .load false 1 (.t 19), none, []⟩, ⟨(some 21), 23, .mv (.t 4), none, []⟩, ⟨(some 22), 24, .iaddr 2 (.t 20) (.t 21), none, []⟩, ⟨(some 23), 25, .faddr 1 1 (.t 22), none, []⟩, ⟨(some 24), 26, .load false 1 (.t 23), none, []⟩, ⟨(some 25), 27, .call 141 [((.t 24), 0)], none, [0, 1]⟩, ⟨(some 26), 28, .bslice 4 1 [(.i .i64 0), (.i .i64 0), (.f 0), (.f 0)] [(0, (.t 25))], none, [0, 1]⟩, ⟨(some 27), 29, .app 4 32 (.t 18) (.t 26), none, []⟩, ⟨(some 28), 30, .faddr 3 1 (.t 3), none, []⟩, ⟨none, 1007012, .store 1 (.t 28) (.t 27), none, []⟩]))
 (.ops [⟨(some 15), 17, .mv (.t 4), none, []⟩, ⟨(some 16), 18, .bin .add (.t 15) (.c (.i .i64 1)), none, []⟩, ⟨(some 4), 6, .mv (.t 16), none, []⟩]))))))
 (.seq (.ops [⟨(some 29), 31, .load true 4 (.t 3), none, []⟩, ⟨none, 1008001, .store 4 (.t 2) (.t 29), none, []⟩])
 .ret)))))
theorem k127 : compCode Try.prog Try.f127.ntmps Try.f127.body.get! = some c127 := by kernel_rfl
theorem r127 : resTmps Try.prog Try.f127.results.toList = some [.cell 2 true 4] := by kernel_rfl
def newRes (l : List (ByteArray × Int)) : List ValP := l.map fun d => zeroV d.2
@[simp] theorem newRes_nil : newRes [] = [] := rfl
@[simp] theorem newRes_len (l : List (ByteArray × Int)) : (newRes l).length = l.length := by simp [newRes]
noncomputable def newW (c r e : List (ByteArray × Int)) : WorldP := ([], [], [], if RegOkP c r e then newRes r else [])
theorem newW_t {c r e : List (ByteArray × Int)} (h : RegOkP c r e) : newW c r e = ([], [], [], newRes r) := by unfold newW; rw [if_pos h]
theorem newW_f {c r e : List (ByteArray × Int)} (h : ¬ RegOkP c r e) : newW c r e = ([], [], [], []) := by unfold newW; rw [if_neg h]
theorem zmap_at {r : List (ByteArray × Int)} {d : ByteArray × Int} {j : Nat} (h : r[j]? = some d) : newRes (r.take (j + 1)) = newRes (r.take j) ++ [zeroV d.2] := by
 rw [take_snoc h]; simp [newRes]
theorem w127 (c r e : List (ByteArray × Int)) (hc : c.length ≤ 2^40) (hr : r.length ≤ 2^40) (he : e.length ≤ 2^40) : Contract Try.prog false 127 [.ro] [regR c r e] [worldO (newW c r e).1 (newW c r e).2.1 (newW c r e).2.2.1 (newW c r e).2.2.2] [] := by
 refine mk_contract [] Try.func127 (c := Try.f127.body.get!) (by kernel_rfl) k127 r127 (of_decide_eq_true rfl) fun _ => ?_
 unfold c127; unfold regR; simp
 by_cases hR : RegOkP c r e
 ·rw [newW_t hR]
  refine callW_ms [.ro] ?_
  simp [regR]
  refine callX_of ((w33 c r e hc hr he).t hR) (by simp) ?_
  simp
  refine twp_for r.length (fun j s => s.t 1 = .pt [(3, 0)] 0 0 ∧ s.t 2 = .pt [(4, 0)] 0 0 ∧ s.t 3 = .pt [(5, 0)] 0 0 ∧ s.t 4 = .i .i64 j ∧ s.H = lk [(1, []), (3, [.po true [.sl false 2 (c.map dT), .sl false 2 (r.map dT), .sl false 2 (e.map dT)]]), (4, [.po true [.sl true 1 [], .sl true 1 [], .sl true 3 [], .sl true 4 []]]), (5, [.po true [.sl true 1 [], .sl true 1 [], .sl true 3 [], .sl true 4 ((newRes (r.take j)).map vT)]])]) [28, 29] (by simp) ?_ ?_
  ·simp
  ·rintro j s hj ⟨q1, q2, q3, q4, qH⟩
   rw [nf_of qH]
   simp [q1, q2, q3, q4]
   refine ⟨fun hlt => ?_, fun hge => ?_⟩
   ·have hw : IntKind.i64.wrap (j + 1) = j + 1 := wrap_id (by omega) (by omega)
    obtain ⟨d, hd⟩ := get_some hlt
    have hz := zmap_at hd
    simp [hd, hw, q1, q2, q3, q4]
    refine callW_ms [.ro] ?_
    simp
    refine callX_of (w141 d.2) (by simp) ?_
    simp [valV, hw, q1, q2, q3, q4, hz]
    exact ⟨by omega, hlt⟩
   ·obtain rfl : j = r.length := by omega
    simp [q1, q2, q3, q4]
 ·rw [newW_f hR]
  refine callW_ms [.ro] ?_
  simp [regR]
  refine callX_of ((w33 c r e hc hr he).f hR) (by simp) ?_
  simp
end Go.Proofs.YtehmdblkkpdmoaaT


namespace Go.Proofs.YtehmdblkkpdmoaaT
set_option linter.unusedVariables false
set_option linter.unusedSimpArgs false
open Go
def c134 : TCode := (.seq (.ops [⟨(some 2), 4, .box 4 (.t 0), none, []⟩, ⟨(some 3), 5, .box 2 (.t 1), none, []⟩, ⟨(some 4), 6, .box 4 (.c (.ag [(.sl true 1 []), (.sl true 1 []), (.sl true 3 []), (.sl true 4 [])])), none, []⟩, ⟨(some 5), 7, .mv (.c (.i .i64 0)), none, []⟩])
 (.seq (.seq (.ops [⟨(some 8), 10, .faddr 0 2 (.t 2), none, []⟩, ⟨(some 9), 11, .load true 2 (.t 8), none, []⟩, ⟨(some 10), 12, .load true 2 (.t 3), none, []⟩, ⟨(some 11), 13, .call 53 [((.t 9), 0), ((.t 10), 0)], none, []⟩, ⟨(some 12), 14, .un .not (.t 11), none, []⟩])
 (.cond (.t 12)
 (.seq (.ops [⟨(some 13), 15, .load true 4 (.t 2), none, []⟩, ⟨none, 1002001, .store 4 (.t 4) (.t 13), none, []⟩, ⟨(some 5), 7, .mv (.c (.i .i64 2)), none, []⟩])
 .ret)
 .skip))
 (.seq (.ops [⟨(some 15), 17, .load true 4 (.t 2), none, []⟩, ⟨(some 16), 18, .load true 2 (.t 3), none, []⟩, ⟨(some 17), 19, .call 54 [((.t 15), 0), ((.t 16), 0)], none, []⟩, ⟨(some 14), 16, .mv (.t 17), none, []⟩, ⟨(some 18), 20, .ext 0 (.t 14), none, []⟩, ⟨(some 19), 21, .ext 1 (.t 14), none, []⟩, ⟨(some 6), 8, .mv (.t 18), none, []⟩, ⟨(some 7), 9, .mv (.t 19), none, []⟩])
 (.seq (.ops [⟨(some 20), 22, .load true 4 (.t 2), none, []⟩, ⟨(some 21), 23, .mv (.t 6), none, []⟩, ⟨(some 22), 24, .mv (.t 7), none, []⟩, ⟨(some 23), 25, .call 146 [((.t 20), 0), ((.t 21), 0), ((.t 22), 0)], none, []⟩, ⟨none, 1004004, .store 4 (.t 2) (.t 23), none, []⟩])
 (.seq (.ops [⟨(some 24), 26, .faddr 0 2 (.t 2), none, []⟩, ⟨(some 25), 27, .load true 2 (.t 24), none, []⟩, ⟨(some 26), 28, .load true 2 (.t 3), none, []⟩, ⟨(some 27), 29, .call 147 [((.t 25), 0), ((.t 26), 0)], none, []⟩, ⟨(some 28), 30, .faddr 0 2 (.t 2), none, []⟩, ⟨none, 1005005, .store 2 (.t 28) (.t 27), none, []⟩])
 (.seq (.ops [⟨(some 29), 31, .load true 4 (.t 2), none, []⟩, ⟨none, 1006001, .store 4 (.t 4) (.t 29), none, []⟩, ⟨(some 5), 7, .mv (.c (.i .i64 0)), none, []⟩])
 .ret))))))
theorem k134 : compCode Try.prog Try.f134.ntmps Try.f134.body.get! = some c134 := by kernel_rfl
theorem r134 : resTmps Try.prog Try.f134.results.toList = some [.cell 4 true 4, .tmp 5] := by kernel_rfl
theorem split_at {α : Type} {l : List α} {j : Nat} {t : α} (h : l[j]? = some t) : l = l.take j ++ t :: l.drop (j + 1) ∧ (l.take j).length = j := by
 have hl := (List.getElem?_eq_some_iff.1 h).1
 refine ⟨?_, by simp; omega⟩
 have h2 : l.drop j = t :: l.drop (j + 1) := by rw [List.drop_eq_getElem_cons hl, (List.getElem?_eq_some_iff.1 h).2]
 rw [← h2, List.take_append_drop]
set_option maxRecDepth 100000 in
theorem w134 (g f : List Int) (A B : List TableP) (t : TableP) (rs : List ValP) (e : Int × Int) (k : Nat) (hg : g.length ≤ 2^36) (hf : f.length ≤ 2^36) (hok : okW (g, f, A ++ t :: B, rs)) (hgn : ∀ x ∈ g, 0 ≤ x ∧ x ≤ 1000000) (hlv : liveP g f e.1 e.2) (hwj : whereG e (A ++ t :: B) 0 = ((A.length : Int), (k : Int))) (hA : A.length ≤ 2^36) (hB : B.length ≤ 2^36) (hkt : okT t) (hv : ∀ v ∈ t.2.2, v.length = t.2.1.length) (hk : k < t.2.1.length) : Contract Try.prog false 134 [.own, .ro] [worldO g f (A ++ t :: B) rs, .ag (eT e)] [worldO (giveG g e.1 e.2) (f ++ [e.1]) (A ++ leaveT t k :: B) rs, .i .i64 0] [none, none, none, none] := by
 refine mk_contract [none, none, none, none] Try.func134 (c := Try.f134.body.get!) (by kernel_rfl) k134 r134 (of_decide_eq_true rfl) fun _ => ?_
 have hW := w54 (g, f, A ++ t :: B, rs) e hok
 simp only [hwj] at hW
 have hL := w146 g f A B t rs k hA hB hk hkt.2.1 hkt.2.2.1 hv
 have hG := w147 g f e.1 e.2 (by omega) hlv.1.1 hlv.2.1 (hgn _ (List.mem_of_getElem? hlv.2.1))
 have hlive := (w53 g f e.1 e.2 (by omega) (by omega)).t hlv
 simp only [entsO, entsR, entT] at hG hlive
 generalize A ++ t :: B = ts at *
 generalize A ++ leaveT t k :: B = ts2 at *
 unfold c134; simp
 refine callW_ms [.ro, .ro] ?_
 simp
 refine callX_of hlive (by simp) ?_
 simp
 refine callW_ms [.ro, .ro] ?_
 simp
 refine callX_of hW (by simp) ?_
 simp
 refine callW_ms [.own, .ro, .ro] ?_
 simp
 refine callX_of hL (by simp) ?_
 simp
 refine callW_ms [.own, .ro] ?_
 simp
 refine callX_of hG (by simp) ?_
 simp
theorem W134d (g f : List Int) (ts : List TableP) (rs : List ValP) (e : Int × Int) (hg : g.length ≤ 2^36) (hf : f.length ≤ 2^36) (hlv : ¬ liveP g f e.1 e.2) : Contract Try.prog false 134 [.own, .ro] [worldO g f ts rs, .ag (eT e)] [worldO g f ts rs, .i .i64 2] [none, none, none, none] := by
 refine mk_contract [none, none, none, none] Try.func134 (c := Try.f134.body.get!) (by kernel_rfl) k134 r134 (of_decide_eq_true rfl) fun _ => ?_
 have hlive := (w53 g f e.1 e.2 (by omega) (by omega)).f hlv
 simp only [entsR, entT] at hlive
 unfold c134; simp
 refine callW_ms [.ro, .ro] ?_
 simp
 refine callX_of hlive (by simp) ?_
 simp
end Go.Proofs.YtehmdblkkpdmoaaT


namespace Go.Proofs.YtehmdblkkpdmoaaT
set_option linter.unusedVariables false
set_option linter.unusedSimpArgs false
open Go
abbrev CellP := Int × ValP
@[simp] def clT (x : Int × ValP) : List TV := .i .i64 x.1 :: vT x.2
@[simp] theorem fzL_clT (x : Int × ValP) : fzL (clT x) = clT x := rfl
@[simp] theorem fzLL_clT (l : List (Int × ValP)) : fzLL (l.map clT) = l.map clT := fzLL_map fzL_clT l
@[simp] theorem noROLL_clT (l : List (Int × ValP)) : noROLL (l.map clT) = true := noROLL_map (fun _ => rfl) l
end Go.Proofs.YtehmdblkkpdmoaaT


namespace Go.Proofs.YtehmdblkkpdmoaaT
set_option linter.unusedVariables false
set_option linter.unusedSimpArgs false
open Go
def c128 : TCode := (.seq (.ops [⟨(some 2), 4, .box 4 (.t 0), none, []⟩, ⟨(some 4), 6, .box 4 (.c (.ag [(.sl true 1 []), (.sl true 1 []), (.sl true 3 []), (.sl true 4 [])])), none, []⟩, ⟨(some 5), 7, .mv (.c (.i .i64 0)), none, []⟩])
 (.seq (.seq (.ops [⟨(some 6), 8, .mv (.c (.i .i64 0)), none, []⟩])
 (.block 0 (.loop (.seq (.seq (.ops [⟨(some 9), 11, .mv (.t 6), none, []⟩, ⟨(some 10), 12, .faddr 2 1 (.t 2), none, []⟩, ⟨(some 11), 13, .load false 1 (.t 10), none, []⟩, ⟨(some 12), 14, .len false (.t 11), none, []⟩, ⟨(some 13), 15, .bin .lss (.t 9) (.t 12), none, []⟩])
 (.cond (.t 13)
 .skip
 (.exit 0)))
 (.seq (.block 1 (.seq (.ops [⟨(some 16), 18, .faddr 2 1 (.t 2), none, []⟩, ⟨(some 17), 19, .load false 1 (.t 16), none, []⟩, ⟨(some 18), 20, .mv (.t 6), none, []⟩, ⟨(some 19), 21, .iaddr 3 (.t 17) (.t 18), none, []⟩, ⟨(some 20), 22, .faddr 0 1 (.t 19), none, []⟩, ⟨(some 21), 23, .load false 1 (.t 20), none, []⟩, ⟨(some 22), 24, .mv (.t 1), none, []⟩, ⟨(some 23), 25, .call 37 [((.t 21), 0), ((.t 22), 0)], none, []⟩])
 (.cond (.t 23)
 (.seq (.ops [⟨(some 24), 26, .load true 4 (.t 2), none, []⟩, ⟨(some 25), 27, .mv (.t 6), none, []⟩, ⟨none, 1005002, .store 4 (.t 4) (.t 24), none, []⟩, ⟨(some 5), 7, .mv (.t 25), none, []⟩])
 .ret)
 .skip)))
 (.ops [⟨(some 14), 16, .mv (.t 6), none, []⟩, ⟨(some 15), 17, .bin .add (.t 14) (.c (.i .i64 1)), none, []⟩, ⟨(some 6), 8, .mv (.t 15), none, []⟩]))))))
 (.seq (.seq (.ops [⟨(some 26), 28, .faddr 2 1 (.t 2), none, []⟩, ⟨(some 27), 29, .load false 1 (.t 26), none, []⟩, ⟨(some 28), 30, .len false (.t 27), none, []⟩, ⟨(some 29), 31, .bin .geq (.t 28) (.c (.i .i64 40)), none, []⟩])
 (.cond (.t 29)
 (.seq (.ops [⟨(some 30), 32, .load true 4 (.t 2), none, []⟩, ⟨none, 1007001, .store 4 (.t 4) (.t 30), none, []⟩, ⟨(some 5), 7, .mv (.c (.i .i64 (-1))), none, []⟩])
 .ret)
 .skip))
 (.seq (.ops [⟨(some 31), 33, .bslice 1 0 [(.i .i64 0)] [], none, []⟩, ⟨(some 32), 34, .mv (.t 1), none, []⟩, ⟨(some 33), 35, .app 1 8 (.t 31) (.t 32), none, []⟩, ⟨(some 34), 36, .build [(.sl true 1 []), (.sl true 2 []), (.sl true 1 [])] [(0, 1, (.t 33))], none, []⟩, ⟨(some 7), 9, .box 3 (.c (.ag [(.sl true 1 []), (.sl true 2 []), (.sl true 1 [])])), none, []⟩, ⟨none, 1008005, .store 3 (.t 7) (.t 34), none, []⟩])
 (.seq (.seq (.ops [⟨(some 8), 10, .mv (.c (.i .i64 0)), none, []⟩])
 (.block 2 (.loop (.seq (.seq (.ops [⟨(some 35), 37, .mv (.t 8), none, []⟩, ⟨(some 36), 38, .mv (.t 1), none, []⟩, ⟨(some 37), 39, .len false (.t 36), none, []⟩, ⟨(some 38), 40, .bin .lss (.t 35) (.t 37), none, []⟩])
 (.cond (.t 38)
 .skip
 (.exit 2)))
 (.seq (.block 3 (.ops [⟨(some 41), 43, .faddr 2 1 (.t 7), none, []⟩, ⟨(some 42), 44, .load false 1 (.t 41), none, []⟩, ⟨(some 43), 45, .bslice 4 0 [(.i .i64 0), (.i .i64 0), (.f 0), (.f 0)] [], none, []⟩, ⟨(some 44), 46, .bslice 1 1 [(.sl true 4 [])] [(0, (.t 43))], none, []⟩, ⟨(some 45), 47, .app 1 24 (.t 42) (.t 44), none, []⟩, ⟨(some 46), 48, .faddr 2 1 (.t 7), none, []⟩, ⟨none, 1012006, .store 1 (.t 46) (.t 45), none, []⟩]))
 (.ops [⟨(some 39), 41, .mv (.t 8), none, []⟩, ⟨(some 40), 42, .bin .add (.t 39) (.c (.i .i64 1)), none, []⟩, ⟨(some 8), 10, .mv (.t 40), none, []⟩]))))))
 (.seq (.ops [⟨(some 47), 49, .faddr 2 1 (.t 2), none, []⟩, ⟨(some 48), 50, .load false 1 (.t 47), none, []⟩, ⟨(some 49), 51, .load true 3 (.t 7), none, []⟩, ⟨(some 50), 52, .bslice 3 1 [(.sl true 1 []), (.sl true 2 []), (.sl true 1 [])] [(0, (.t 49))], none, []⟩, ⟨(some 51), 53, .app 3 72 (.t 48) (.t 50), none, []⟩, ⟨(some 52), 54, .faddr 2 1 (.t 2), none, []⟩, ⟨none, 1013006, .store 1 (.t 52) (.t 51), none, []⟩])
 (.seq (.draw [⟨(some 53), 55, .load true 4 (.t 2), none, []⟩, ⟨(some 54), 56, .faddr 2 1 (.t 2), none, []⟩, ⟨(some 55), 57, .load false 1 (.t 54), none, []⟩, ⟨(some 56), 58, .len false (.t 55), none, []⟩, ⟨(some 57), 59, .bin .sub (.t 56) (.c (.i .i64 1)), none, []⟩, ⟨none, 1014005, .store 4 (.t 4) (.t 53), none, [1000000, 1, 2, 3, 4]⟩, ⟨(some 5), 7, .mv (.t 57), none, []⟩])
 .ret)))))))
theorem k128 : compCode Try.prog Try.f128.ntmps Try.f128.body.get! = some c128 := by kernel_rfl
theorem r128 : resTmps Try.prog Try.f128.results.toList = some [.cell 4 true 4, .tmp 5] := by kernel_rfl
def c144 : TCode := (.seq (.ops [⟨(some 3), 5, .box 4 (.t 0), none, []⟩, ⟨(some 6), 8, .mv (.c (.sl true 5 [])), none, []⟩])
 (.seq (.ops [⟨(some 9), 11, .bslice 5 0 [(.i .i64 0), (.i .i64 0), (.i .i64 0), (.f 0), (.f 0)] [], none, []⟩, ⟨(some 7), 9, .mv (.t 9), none, []⟩])
 (.seq (.seq (.ops [⟨(some 8), 10, .mv (.c (.i .i64 0)), none, []⟩])
 (.block 0 (.loop (.seq (.seq (.ops [⟨(some 10), 12, .mv (.t 8), none, []⟩, ⟨(some 11), 13, .faddr 2 1 (.t 3), none, []⟩, ⟨(some 12), 14, .load false 1 (.t 11), none, []⟩, ⟨(some 13), 15, .mv (.t 1), none, []⟩, ⟨(some 14), 16, .iaddr 3 (.t 12) (.t 13), none, []⟩, ⟨(some 15), 17, .faddr 0 1 (.t 14), none, []⟩, ⟨(some 16), 18, .load false 1 (.t 15), none, []⟩, ⟨(some 17), 19, .len false (.t 16), none, []⟩, ⟨(some 18), 20, .bin .lss (.t 10) (.t 17), none, []⟩])
 (.cond (.t 18)
 .skip
 (.exit 0)))
 (.seq (.block 1 (.draw [⟨(some 21), 23, .mv (.t 7), none, []⟩, ⟨(some 22), 24, .faddr 2 1 (.t 3), none, []⟩, ⟨(some 23), 25, .load false 1 (.t 22), none, []⟩, ⟨(some 24), 26, .mv (.t 1), none, []⟩, ⟨(some 25), 27, .iaddr 3 (.t 23) (.t 24), none, []⟩, ⟨(some 26), 28, .faddr 0 1 (.t 25), none, []⟩, ⟨(some 27), 29, .load false 1 (.t 26), none, []⟩, ⟨(some 28), 30, .mv (.t 8), none, []⟩, ⟨(some 29), 31, .iaddr 1 (.t 27) (.t 28), none, []⟩, ⟨(some 30), 32, .load false 1 (.t 29), none, []⟩, ⟨(some 31), 33, .faddr 2 1 (.t 3), none, []⟩, ⟨(some 32), 34, .load false 1 (.t 31), none, []⟩, ⟨(some 33), 35, .mv (.t 1), none, []⟩, ⟨(some 34), 36, .iaddr 3 (.t 32) (.t 33), none, []⟩, ⟨(some 35), 37, .faddr 2 1 (.t 34), none, []⟩, ⟨(some 36), 38, .load false 1 (.t 35), none, []⟩, ⟨(some 37), 39, .mv (.t 8), none, []⟩, ⟨(some 38), 40, .iaddr 1 (.t 36) (.t 37), none, []⟩, ⟨(some 39), 41, .load false 1 (.t 38), none, []⟩, ⟨(some 40), 42, .mv (.t 2), none, []⟩, ⟨(some 41), 43, .iaddr 4 (.t 39) (.t 40), none, []⟩, ⟨(some 42), 44, .load true 4 (.t 41), none, []⟩, ⟨(some 43), 45, .build [(.i .i64 0), (.i .i64 0), (.i .i64 0), (.f 0), (.f 0)] [(0, 1, (.t 30)), (1, 4, (.t 42))], none, []⟩, ⟨(some 44), 46, .bslice 5 1 [(.i .i64 0), (.i .i64 0), (.i .i64 0), (.f 0), (.f 0)] [(0, (.t 43))], none, [0]⟩, ⟨(some 45), 47, .app 5 40 (.t 21) (.t 44), none, []⟩, ⟨(some 7), 9, .mv (.t 45), none, []⟩]))
 (.ops [⟨(some 19), 21, .mv (.t 8), none, []⟩, ⟨(some 20), 22, .bin .add (.t 19) (.c (.i .i64 1)), none, []⟩, ⟨(some 8), 10, .mv (.t 20), none, []⟩]))))))
 (.seq (.ops [⟨(some 46), 48, .mv (.t 7), none, []⟩, ⟨(some 6), 8, .mv (.t 46), none, []⟩])
 .ret))))
theorem k144 : compCode Try.prog Try.f144.ntmps Try.f144.body.get! = some c144 := by kernel_rfl
theorem r144 : resTmps Try.prog Try.f144.results.toList = some [.tmp 6] := by kernel_rfl
def newT (cols : List Int) : TableP := (cols, [], List.replicate cols.length [])
def tabW (ts : List TableP) (cols : List Int) : List TableP × Nat := if 0 ≤ tabIx ts cols then (ts, (tabIx ts cols).toNat) else (ts ++ [newT cols], ts.length)
def fullT (ts : List TableP) (cols : List Int) : Prop := ¬ 0 ≤ tabIx ts cols ∧ 40 ≤ ts.length
theorem tabIx_none {ts : List TableP} {cols : List Int} (h : noT cols ts) : tabIx ts cols = -1 := idxP_none h
set_option maxRecDepth 100000 in
theorem w128 (g f : List Int) (ts : List TableP) (rs : List ValP) (cols : List Int) (hok : ∀ t ∈ ts, t.1.length ≤ 2^36) (hl : ts.length ≤ 2^36) (hc : cols.length ≤ 2^36) (hn : ¬ fullT ts cols) : Contract Try.prog false 128 [.own, .ro] [worldO g f ts rs, .sl false 1 (cols.map iT)] [worldO g f (tabW ts cols).1 rs, .i .i64 (tabW ts cols).2] [none, none, none, none] := by
 refine mk_contract [none, none, none, none] Try.func128 (c := Try.f128.body.get!) (by kernel_rfl) k128 r128 (of_decide_eq_true rfl) fun _ => ?_
 unfold c128; simp
 refine twp_for ts.length (fun j s => noT cols (ts.take j) ∧ s.t 1 = .sl false 1 (cols.map iT) ∧ s.t 2 = .pt [(4, 0)] 0 0 ∧ s.t 4 = .pt [(6, 0)] 0 0 ∧ s.t 6 = .i .i64 j ∧ s.H = lk [(1, [.junk, .junk, .junk, .junk]), (4, [.po true [.sl true 1 (g.map iT), .sl true 1 (f.map iT), .sl true 3 (ts.map tbO), .sl true 4 (rs.map vT)]]), (6, [.po true [.sl true 1 [], .sl true 1 [], .sl true 3 [], .sl true 4 []]])]) [] (by simp) ?_ ?_
 ·refine ⟨by simp [noT_nil], ?_⟩
  simp
 ·rintro j s hj ⟨hno, q1, q2, q4, q6, qH⟩
  rw [nf_of qH]
  have hw : IntKind.i64.wrap ((j : Int) + 1) = j + 1 := wrap_id (by omega) (by omega)
  cases hb9 : decide (j < ts.length)
  ·have hge := of_decide_eq_false hb9
   rw [List.take_of_length_le (by omega)] at hno
   have hix := tabIx_none hno
   have hlt : ts.length < 40 := by
    refine Decidable.byContradiction fun h => hn ⟨by omega, by omega⟩
   have hlt' : ¬ (40 ≤ ts.length) := by omega
   have eW : tabW ts cols = (ts ++ [newT cols], ts.length) := by unfold tabW; rw [if_neg (by omega)]
   rw [eW]
   simp [q1, q2, q4, q6, hb9, hlt']
   refine ⟨by omega, fun _ => ⟨by omega, ?_⟩⟩
   refine twp_for cols.length (fun j s => ∃ L : List (List ValP), L = List.replicate j [] ∧ L.length = j ∧ s.t 1 = .sl false 1 (cols.map iT) ∧ s.t 2 = .pt [(4, 0)] 0 0 ∧ s.t 4 = .pt [(6, 0)] 0 0 ∧ s.t 7 = .pt [(9, 0)] 0 0 ∧ s.t 8 = .i .i64 j ∧ s.H = lk [(1, [.junk, .junk, .junk, .junk]), (4, [.po true [.sl true 1 (g.map iT), .sl true 1 (f.map iT), .sl true 3 (ts.map tbO), .sl true 4 (rs.map vT)]]), (6, [.po true [.sl true 1 [], .sl true 1 [], .sl true 3 [], .sl true 4 []]]), (9, [.po true [.sl true 1 (cols.map iT), .sl true 2 [], .sl true 1 (L.map cvO)]])]) [33, 35, 45, 46, 47] (by simp) ?_ ?_
   ·refine ⟨[], rfl, rfl, ?_⟩
    simp [q1, q2, q4, q6]
   ·rintro j s hj ⟨L, hL, hLl, q1, q2, q4, q7, q8, qH⟩
    rw [nf_of qH]
    have hw : IntKind.i64.wrap ((j : Int) + 1) = j + 1 := wrap_id (by omega) (by omega)
    cases hb9 : decide (j < cols.length)
    ·have hge := of_decide_eq_false hb9
     obtain rfl : j = cols.length := by omega
     have hw2 : IntKind.i64.wrap (ts.length : Int) = ts.length := wrap_id (by omega) (by omega)
     simp [q1, q2, q4, q7, q8, hb9, takeRows, hw2]
     exact ⟨by omega, rfl, rfl, by rw [hL]; rfl⟩
    ·have hlt := of_decide_eq_true hb9
     have e : List.map cvO L ++ [[TV.sl true 4 []]] = List.replicate (j + 1) [TV.sl true 4 []] := by rw [hL]; simp [List.replicate_succ']
     simp [q1, q2, q4, q7, q8, hb9, hw, takeRows, hLl, e]
     omega
  ·have hlt := of_decide_eq_true hb9
   obtain ⟨t, ht⟩ := get_some hlt
   have hm := List.mem_of_getElem? ht
   have hsn := take_snoc ht
   simp [q1, q2, q4, q6, hb9, ht, hw]
   by_cases hq : t.1 = cols
   ·have hix : tabIx ts cols = j := idxP_at ht (by simp [isT, hq]) hno
    have eW : tabW ts cols = (ts, j) := by unfold tabW; rw [if_pos (by omega), hix]; rfl
    rw [eW]
    refine ⟨hlt, ?_⟩
    refine callW_ms [.ro, .ro] ?_
    simp [ht]
    refine callX_of ((w37 t.1 cols (by have := hok t hm; omega) (by omega)).t hq) (by simp) ?_
    simp [q1, q2, q4, q6, hb9, hw]
   ·refine ⟨hlt, ?_⟩
    refine callW_ms [.ro, .ro] ?_
    simp [ht]
    refine callX_of ((w37 t.1 cols (by have := hok t hm; omega) (by omega)).f hq) (by simp) ?_
    simp [q1, q2, q4, q6, hb9, hw, ht]
    rw [hsn]
    exact ⟨hlt, noT_snoc hno (by simp [isT, hq])⟩
theorem W128a (g f : List Int) (ts : List TableP) (rs : List ValP) (cols : List Int) (hok : ∀ t ∈ ts, t.1.length ≤ 2^36) (hl : ts.length ≤ 2^36) (hc : cols.length ≤ 2^36) (hn : fullT ts cols) : Contract Try.prog true 128 [.ro, .ro] [worldR g f ts rs, .sl false 1 (cols.map iT)] [worldR g f ts rs, .i .i64 (-1)] [] := by
 refine mk_contract [] Try.func128 (c := Try.f128.body.get!) (by kernel_rfl) k128 r128 (of_decide_eq_true rfl) fun _ => ?_
 unfold c128; simp
 refine twp_for ts.length (fun j s => noT cols (ts.take j) ∧ s.t 1 = .sl false 1 (cols.map iT) ∧ s.t 2 = .pt [(4, 0)] 0 0 ∧ s.t 4 = .pt [(6, 0)] 0 0 ∧ s.t 6 = .i .i64 j ∧ s.H = lk [(1, []), (4, [.po true [.sl false 1 (g.map iT), .sl false 1 (f.map iT), .sl false 3 (ts.map tbT), .sl false 4 (rs.map vT)]]), (6, [.po true [.sl true 1 [], .sl true 1 [], .sl true 3 [], .sl true 4 []]])]) [] (by simp) ?_ ?_
 ·refine ⟨by simp [noT_nil], ?_⟩
  simp
 ·rintro j s hj ⟨hno, q1, q2, q4, q6, qH⟩
  rw [nf_of qH]
  have hw : IntKind.i64.wrap ((j : Int) + 1) = j + 1 := wrap_id (by omega) (by omega)
  cases hb9 : decide (j < ts.length)
  ·have hge : (40 : Int) ≤ ts.length := by have := hn.2; omega
   simp [q1, q2, q4, q6, hb9, hge]
  ·have hlt := of_decide_eq_true hb9
   obtain ⟨t, ht⟩ := get_some hlt
   have hm := List.mem_of_getElem? ht
   have hsn := take_snoc ht
   simp [q1, q2, q4, q6, hb9, ht, hw]
   by_cases hq : t.1 = cols
   ·have hix : tabIx ts cols = j := idxP_at ht (by simp [isT, hq]) hno
    exact absurd (by omega) hn.1
   ·refine callW_ms [.ro, .ro] ?_
    simp [ht]
    refine callX_of ((w37 t.1 cols (by have := hok t hm; omega) (by omega)).f hq) (by simp) ?_
    simp [q1, q2, q4, q6, hb9, hw, ht]
    rw [hsn]
    exact ⟨hlt, noT_snoc hno (by simp [isT, hq])⟩
theorem W128f (g f : List Int) (ts : List TableP) (rs : List ValP) (cols : List Int) (hok : ∀ t ∈ ts, t.1.length ≤ 2^36) (hl : ts.length ≤ 2^36) (hc : cols.length ≤ 2^36) (hn : fullT ts cols) : Contract Try.prog false 128 [.ro, .ro] [worldR g f ts rs, .sl false 1 (cols.map iT)] [.ag [.sl false 0 ((g.map iT).map fun _ => []), .sl false 0 ((f.map iT).map fun _ => []), .sl false 0 ((ts.map tbT).map fun _ => []), .sl false 0 ((rs.map vT).map fun _ => [])], .i .i64 (-1)] [] :=
 Contract.blurs (W128a g f ts rs cols hok hl hc hn) rfl rfl
end Go.Proofs.YtehmdblkkpdmoaaT


namespace Go.Proofs.YtehmdblkkpdmoaaT
set_option linter.unusedVariables false
set_option linter.unusedSimpArgs false
open Go
def c145 : TCode := (.seq (.ops [⟨(some 4), 6, .box 4 (.t 0), none, []⟩, ⟨(some 8), 10, .box 4 (.c (.ag [(.sl true 1 []), (.sl true 1 []), (.sl true 3 []), (.sl true 4 [])])), none, []⟩, ⟨(some 9), 11, .mv (.c (.i .i64 0)), none, []⟩])
 (.seq (.ops [⟨(some 15), 17, .bslice 1 0 [(.i .i64 0)] [], none, []⟩, ⟨(some 10), 12, .mv (.t 15), none, []⟩])
 (.seq (.seq (.ops [⟨(some 11), 13, .mv (.c (.i .i64 0)), none, []⟩])
 (.block 0 (.loop (.seq (.seq (.ops [⟨(some 16), 18, .mv (.t 11), none, []⟩, ⟨(some 17), 19, .mv (.t 3), none, []⟩, ⟨(some 18), 20, .len false (.t 17), none, []⟩, ⟨(some 19), 21, .bin .lss (.t 16) (.t 18), none, []⟩])
 (.cond (.t 19)
 .skip
 (.exit 0)))
 (.seq (.block 1 (.ops [⟨(some 22), 24, .mv (.t 10), none, []⟩, ⟨(some 23), 25, .mv (.t 3), none, []⟩, ⟨(some 24), 26, .mv (.t 11), none, []⟩, ⟨(some 25), 27, .iaddr 5 (.t 23) (.t 24), none, []⟩, ⟨(some 26), 28, .faddr 0 1 (.t 25), none, []⟩, ⟨(some 27), 29, .load false 1 (.t 26), none, []⟩, ⟨(some 28), 30, .bslice 1 1 [(.i .i64 0)] [(0, (.t 27))], none, []⟩, ⟨(some 29), 31, .app 1 8 (.t 22) (.t 28), none, []⟩, ⟨(some 10), 12, .mv (.t 29), none, []⟩]))
 (.ops [⟨(some 20), 22, .mv (.t 11), none, []⟩, ⟨(some 21), 23, .bin .add (.t 20) (.c (.i .i64 1)), none, []⟩, ⟨(some 11), 13, .mv (.t 21), none, []⟩]))))))
 (.seq (.ops [⟨(some 31), 33, .load true 4 (.t 4), none, []⟩, ⟨(some 32), 34, .mv (.t 10), none, []⟩, ⟨(some 33), 35, .call 128 [((.t 31), 0), ((.t 32), 0)], none, []⟩, ⟨(some 30), 32, .mv (.t 33), none, []⟩, ⟨(some 34), 36, .ext 0 (.t 30), none, []⟩, ⟨(some 35), 37, .ext 1 (.t 30), none, []⟩, ⟨(some 12), 14, .box 4 (.c (.ag [(.sl true 1 []), (.sl true 1 []), (.sl true 3 []), (.sl true 4 [])])), none, []⟩, ⟨none, 1006007, .store 4 (.t 12) (.t 34), none, []⟩, ⟨(some 13), 15, .mv (.t 35), none, []⟩])
 (.seq (.seq (.ops [⟨(some 36), 38, .mv (.t 13), none, []⟩, ⟨(some 37), 39, .bin .lss (.t 36) (.c (.i .i64 0)), none, []⟩])
 (.cond (.t 37)
 (.seq (.ops [⟨(some 38), 40, .load true 4 (.t 4), none, []⟩, ⟨none, 1008001, .store 4 (.t 8) (.t 38), none, []⟩, ⟨(some 9), 11, .mv (.c (.i .i64 3)), none, []⟩])
 .ret)
 .skip))
 (.seq (.draw [⟨(some 39), 41, .faddr 2 1 (.t 12), none, []⟩, ⟨(some 40), 42, .load false 1 (.t 39), none, []⟩, ⟨(some 41), 43, .mv (.t 13), none, []⟩, ⟨(some 42), 44, .faddr 2 1 (.t 12), none, []⟩, ⟨(some 43), 45, .load false 1 (.t 42), none, []⟩, ⟨(some 44), 46, .mv (.t 13), none, []⟩, ⟨(some 45), 47, .iaddr 3 (.t 43) (.t 44), none, []⟩, ⟨(some 46), 48, .faddr 1 1 (.t 45), none, []⟩, ⟨(some 47), 49, .load false 1 (.t 46), none, []⟩, ⟨(some 48), 50, .faddr 2 1 (.t 12), none, []⟩, ⟨(some 49), 51, .load false 1 (.t 48), none, []⟩, ⟨(some 50), 52, .mv (.t 1), none, []⟩, ⟨(some 51), 53, .iaddr 3 (.t 49) (.t 50), none, []⟩, ⟨(some 52), 54, .faddr 1 1 (.t 51), none, []⟩, ⟨(some 53), 55, .load false 1 (.t 52), none, []⟩, ⟨(some 54), 56, .mv (.t 2), none, []⟩, ⟨(some 55), 57, .iaddr 2 (.t 53) (.t 54), none, []⟩, ⟨(some 56), 58, .load true 2 (.t 55), none, []⟩, ⟨(some 57), 59, .bslice 2 1 [(.i .i64 0), (.i .i64 0)] [(0, (.t 56))], none, [0, 1, 2, 3, 4, 5, 6, 7, 8]⟩, ⟨(some 58), 60, .app 2 16 (.t 47) (.t 57), none, [0, 1, 2]⟩, ⟨(some 59), 61, .iaddr 3 (.t 40) (.t 41), none, []⟩, ⟨(some 60), 62, .faddr 1 1 (.t 59), none, []⟩, ⟨none, 1009022, .store 1 (.t 60) (.t 58), none, []⟩])
 (.seq (.seq (.ops [⟨(some 14), 16, .mv (.c (.i .i64 0)), none, []⟩])
 (.block 2 (.loop (.seq (.seq (.ops [⟨(some 61), 63, .mv (.t 14), none, []⟩, ⟨(some 62), 64, .mv (.t 3), none, []⟩, ⟨(some 63), 65, .len false (.t 62), none, []⟩, ⟨(some 64), 66, .bin .lss (.t 61) (.t 63), none, []⟩])
 (.cond (.t 64)
 .skip
 (.exit 2)))
 (.seq (.block 3 (.draw [⟨(some 67), 69, .faddr 2 1 (.t 12), none, []⟩, ⟨(some 68), 70, .load false 1 (.t 67), none, []⟩, ⟨(some 69), 71, .mv (.t 13), none, []⟩, ⟨(some 70), 72, .iaddr 3 (.t 68) (.t 69), none, []⟩, ⟨(some 71), 73, .faddr 2 1 (.t 70), none, []⟩, ⟨(some 72), 74, .load false 1 (.t 71), none, []⟩, ⟨(some 73), 75, .mv (.t 14), none, []⟩, ⟨(some 74), 76, .faddr 2 1 (.t 12), none, []⟩, ⟨(some 75), 77, .load false 1 (.t 74), none, []⟩, ⟨(some 76), 78, .mv (.t 13), none, []⟩, ⟨(some 77), 79, .iaddr 3 (.t 75) (.t 76), none, []⟩, ⟨(some 78), 80, .faddr 2 1 (.t 77), none, []⟩, ⟨(some 79), 81, .load false 1 (.t 78), none, []⟩, ⟨(some 80), 82, .mv (.t 14), none, []⟩, ⟨(some 81), 83, .iaddr 1 (.t 79) (.t 80), none, []⟩, ⟨(some 82), 84, .load false 1 (.t 81), none, []⟩, ⟨(some 83), 85, .mv (.t 3), none, []⟩, ⟨(some 84), 86, .mv (.t 14), none, []⟩, ⟨(some 85), 87, .iaddr 5 (.t 83) (.t 84), none, []⟩, ⟨(some 86), 88, .faddr 1 4 (.t 85), none, []⟩, ⟨(some 87), 89, .load true 4 (.t 86), none, []⟩, ⟨(some 88), 90, .bslice 4 1 [(.i .i64 0), (.i .i64 0), (.f 0), (.f 0)] [(0, (.t 87))], none, [0, 1, 2, 3, 4, 5, 6, 7, 8, 9, 10, 11, 12, 13, 14, 15]⟩, ⟨(some 89), 91, .app 4 32 (.t 82) (.t 88), none, [0, 1, 2, 3, 4, 5, 6]⟩, ⟨(some 90), 92, .iaddr 1 (.t 72) (.t 73), none, []⟩, ⟨none, 1013024, .store 1 (.t 90) (.t 89), none, []⟩]))
 (.ops [⟨(some 65), 67, .mv (.t 14), none, []⟩, ⟨(some 66), 68, .bin .add (.t 65) (.c (.i .i64 1)), none, []⟩, ⟨(some 14), 16, .mv (.t 66), none, []⟩]))))))
 (.seq (.ops [⟨(some 91), 93, .load true 4 (.t 12), none, []⟩, ⟨(some 92), 94, .mv (.t 1), none, []⟩, ⟨(some 93), 95, .mv (.t 2), none, []⟩, ⟨(some 94), 96, .call 146 [((.t 91), 0), ((.t 92), 0), ((.t 93), 0)], none, []⟩, ⟨none, 1014004, .store 4 (.t 8) (.t 94), none, []⟩, ⟨(some 9), 11, .mv (.c (.i .i64 0)), none, []⟩])
 .ret))))))))
theorem k145 : compCode Try.prog Try.f145.ntmps Try.f145.body.get! = some c145 := by kernel_rfl
theorem r145 : resTmps Try.prog Try.f145.results.toList = some [.cell 8 true 4, .tmp 9] := by kernel_rfl
def nilVal : ValP := (0, 0, 0, 0)
def rowL (t : TableP) (k : Nat) : List CellP := List.zipWith (fun c vs => (c, vs.getD k nilVal)) t.1 t.2.2
theorem rowL_len {t : TableP} {k : Nat} (h : t.2.2.length = t.1.length) : (rowL t k).length = t.1.length := by simp [rowL, h]
theorem rowL_get {t : TableP} {k j : Nat} {x : Int} {vs : List ValP} {v : ValP} (h1 : t.1[j]? = some x) (h2 : t.2.2[j]? = some vs) (h3 : vs[k]? = some v) : (rowL t k)[j]? = some (x, v) := by
 simp [rowL, List.getElem?_zipWith, h1, h2, h3]
set_option maxRecDepth 100000 in
theorem w144 (g f : List Int) (ts : List TableP) (rs : List ValP) (i k : Nat) (t : TableP) (hl : ts.length ≤ 2^36) (ht : ts[i]? = some t) (hc : t.1.length ≤ 2^36) (hs : t.2.2.length = t.1.length) (hv : ∀ v ∈ t.2.2, v.length = t.2.1.length) (hk : k < t.2.1.length) : Contract Try.prog false 144 [.ro, .ro, .ro] [worldR g f ts rs, .i .i64 i, .i .i64 k] [.sl true 5 ((rowL t k).map clT)] [] := by
 refine mk_contract [] Try.func144 (c := Try.f144.body.get!) (by kernel_rfl) k144 r144 (of_decide_eq_true rfl) fun _ => ?_
 have hil := (List.getElem?_eq_some_iff.1 ht).1
 have hrl := rowL_len (k := k) hs
 unfold c144; simp
 refine twp_forR t.1.length (fun j s => s.t 1 = .i .i64 i ∧ s.t 2 = .i .i64 k ∧ s.t 3 = .pt [(5, 0)] 0 0 ∧ s.t 7 = .rf [(47, 0)] 0 j ∧ s.t 8 = .i .i64 j ∧ s.H = lk [(1, []), (5, [.po true [.sl false 1 (g.map iT), .sl false 1 (f.map iT), .sl false 3 (ts.map tbT), .sl false 4 (rs.map vT)]]), (47, [.sl true 5 (((rowL t k).take j).map clT)])]) [46] [(11, 47)] (by simp) (by simp) ?_ ?_
 ·simp
 ·rintro j s hj ⟨q1, q2, q3, q7, q8, qH⟩
  rw [nf_of qH]
  simp [q1, q2, q3, q7, q8]
  have hmin : min j (rowL t k).length = j := by omega
  simp [ht]
  refine ⟨fun hlt => ?_, fun hge => ?_⟩
  ·have hw : IntKind.i64.wrap (j + 1) = j + 1 := wrap_id (by omega) (by omega)
   obtain ⟨x, hx⟩ := get_some hlt
   obtain ⟨vs, hvs⟩ : ∃ vs, t.2.2[j]? = some vs := get_some (by omega)
   have hvl := hv vs (List.mem_of_getElem? hvs)
   obtain ⟨v, hvv⟩ : ∃ v, vs[k]? = some v := get_some (by omega)
   have hgt := rowL_get hx hvs hvv
   simp [hx, hvs, hvv, ht, hw, q1, q2, q3, q7, q8, hmin, mapsnoc hgt]
   omega
  ·obtain rfl : j = t.1.length := by omega
   have hd : List.take t.fst.length (List.map clT (rowL t k)) = List.map clT (rowL t k) := List.take_of_length_le (by simp; omega)
   simp [q1, q2, q3, q7, q8, hd]
theorem tabIx_at {ts : List TableP} {cols : List Int} (h : 0 ≤ tabIx ts cols) : ∃ (j : Nat) (t : TableP), tabIx ts cols = j ∧ ts[j]? = some t ∧ t.1 = cols := by
 unfold tabIx idxP at h ⊢
 split at h
 ·rename_i j hj
  rw [List.findIdx?_eq_some_iff_getElem] at hj
  obtain ⟨hlt, hq, -⟩ := hj
  refine ⟨j, ts[j], rfl, List.getElem?_eq_getElem hlt, by simpa [isT] using hq⟩
 ·omega
def isTk {α : Type} (M : List α) (j : Nat) (Q : List α) : Prop := Q = M.take j
theorem isTk.snoc {α : Type} {M Q : List α} {j : Nat} {x : α} (h : isTk M j Q) (hx : M[j]? = some x) : isTk M (j + 1) (Q ++ [x]) := by
 unfold isTk at h ⊢
 rw [h, take_snoc hx]
def colsOf (L : List CellP) : List Int := L.map fun x => x.1
def joinT (t : TableP) (e : Int × Int) (L : List CellP) : TableP := (t.1, t.2.1 ++ [e], List.zipWith (fun vs x => vs ++ [x.2]) t.2.2 L)
def zipUp (C : List (List ValP)) (L : List CellP) (j : Nat) : List (List ValP) := List.zipWith (fun vs x => vs ++ [x.2]) (C.take j) (L.take j)
theorem zipUp_succ {C : List (List ValP)} {L : List CellP} {j : Nat} {vs : List ValP} {x : CellP} (h1 : C[j]? = some vs) (h2 : L[j]? = some x) : zipUp C L (j + 1) = zipUp C L j ++ [vs ++ [x.2]] := by
 have l1 := (List.getElem?_eq_some_iff.1 h1).1
 have l2 := (List.getElem?_eq_some_iff.1 h2).1
 unfold zipUp
 rw [take_snoc h1, take_snoc h2, List.zipWith_append (by simp; omega)]
 rfl
theorem zipUp_all {C : List (List ValP)} {L : List CellP} (h : C.length = L.length) : zipUp C L L.length = List.zipWith (fun vs x => vs ++ [x.2]) C L := by
 unfold zipUp
 rw [List.take_of_length_le (by omega), List.take_of_length_le (Nat.le_refl _)]
def isZip (C : List (List ValP)) (L : List CellP) (j : Nat) (Z : List (List ValP)) : Prop := Z = zipUp C L j
def leaveAt (ts : List TableP) (i k : Nat) : List TableP := ts.modify i fun t => leaveT t k
theorem get_mid_ne {α : Type} {A B : List α} {i : Nat} (h : i ≠ A.length) (x y : α) : (A ++ x :: B)[i]? = (A ++ y :: B)[i]? := by
 rcases Nat.lt_or_gt_of_ne h with h | h
 ·rw [List.getElem?_append_left h, List.getElem?_append_left h]
 ·rw [List.getElem?_append_right (by omega), List.getElem?_append_right (by omega)]
  obtain ⟨m, hm⟩ : ∃ m, i - A.length = m + 1 := ⟨i - A.length - 1, by omega⟩
  rw [hm]; rfl
theorem leaveAt_mid {A B : List TableP} {t : TableP} {k : Nat} : leaveAt (A ++ t :: B) A.length k = A ++ leaveT t k :: B := modify_mid rfl
def moveTs (ts : List TableP) (i k : Nat) (e : Int × Int) (L : List CellP) : List TableP :=
 leaveAt ((tabW ts (colsOf L)).1.modify (tabW ts (colsOf L)).2 fun t => joinT t e L) i k
set_option maxHeartbeats 4000000 in
set_option maxRecDepth 100000 in
theorem w145 (g f : List Int) (ts : List TableP) (rs : List ValP) (i k : Nat) (L : List CellP) (t : TableP) (e : Int × Int) (hok : ∀ t ∈ ts, t.1.length ≤ 2^36) (hl : ts.length ≤ 2^30) (hL : L.length ≤ 2^36) (hn : ¬ fullT ts (colsOf L)) (ht : ts[i]? = some t) (he : t.2.1[k]? = some e) (hne : t.1 ≠ colsOf L) (hto : ∀ t ∈ ts, t.2.1.length ≤ 2^36) (hC : ∀ t ∈ ts, t.2.2.length = t.1.length) (hv : ∀ t ∈ ts, ∀ v ∈ t.2.2, v.length = t.2.1.length) : Contract Try.prog false 145 [.own, .ro, .ro, .ro] [worldO g f ts rs, .i .i64 i, .i .i64 k, .sl false 5 (L.map clT)] [worldO g f (moveTs ts i k e L) rs, .i .i64 0] [none, none, none, none] := by
 refine mk_contract [none, none, none, none] Try.func145 (c := Try.f145.body.get!) (by kernel_rfl) k145 r145 (of_decide_eq_true rfl) fun _ => ?_
 have hcl : (colsOf L).length = L.length := by simp [colsOf]
 have hT := w128 g f ts rs (colsOf L) hok (by omega) (by omega) hn
 obtain ⟨A, B, T2, e1, e2, e3, e4, e5, e6, e7, e8⟩ : ∃ (A B : List TableP) (T2 : TableP), (tabW ts (colsOf L)).1 = A ++ T2 :: B ∧ (tabW ts (colsOf L)).2 = A.length ∧ T2.1 = colsOf L ∧ (A ++ T2 :: B)[i]? = some t ∧ i ≠ A.length ∧ T2.2.2.length = L.length ∧ T2.2.1.length ≤ 2^36 ∧ (∀ v ∈ T2.2.2, v.length = T2.2.1.length) ∧ (A.length ≤ 2^30 ∧ B.length ≤ 2^30) := by
  unfold tabW
  by_cases hix : 0 ≤ tabIx ts (colsOf L)
  ·rw [if_pos hix]
   obtain ⟨j, T2, h1, h2, h3⟩ : ∃ (j : Nat) (T2 : TableP), tabIx ts (colsOf L) = j ∧ ts[j]? = some T2 ∧ T2.1 = colsOf L := tabIx_at hix
   have hm := List.mem_of_getElem? h2
   obtain ⟨s1, s2⟩ := split_at h2
   have hij : i ≠ j := by
    rintro rfl
    rw [ht] at h2; cases h2
    exact hne h3
   have hjl := (List.getElem?_eq_some_iff.1 h2).1
   refine ⟨ts.take j, ts.drop (j + 1), T2, s1, by rw [s2, h1]; rfl, h3, by rw [← s1]; exact ht, by rw [s2]; exact hij, by rw [hC T2 hm, h3, hcl], hto T2 hm, hv T2 hm, by simp; omega, by simp; omega⟩
  ·rw [if_neg hix]
   have hil := (List.getElem?_eq_some_iff.1 ht).1
   refine ⟨ts, [], newT (colsOf L), rfl, rfl, rfl, ?_, by omega, by simp [newT, hcl], by simp [newT], ?_, hl, by simp⟩
   ·rw [List.getElem?_append_left hil]; exact ht
   ·intro v hv; simp [newT] at hv; rw [hv.2]; rfl
 obtain ⟨T21, T22, T23⟩ := T2
 simp only at e1 e2 e3 e4 e5 e6 e7 e8
 subst e3
 rw [e1, e2] at hT
 have hM : moveTs ts i k e L = leaveAt (A ++ joinT (colsOf L, T22, T23) e L :: B) i k := by
  unfold moveTs
  rw [e1, e2, modify_mid rfl]
 rw [hM]
 clear hM e1 e2
 obtain ⟨TS, hTS⟩ : ∃ TS, TS = leaveAt (A ++ joinT (colsOf L, T22, T23) e L :: B) i k := ⟨_, rfl⟩
 rw [← hTS]
 have hti : (A.map tbO ++ [.sl true 1 ((colsOf L).map iT), .sl true 2 (T22.map eT), .sl true 1 (T23.map cvO)] :: B.map tbO)[i]? = some (tbO t) := by
  rw [show (A.map tbO ++ [.sl true 1 ((colsOf L).map iT), .sl true 2 (T22.map eT), .sl true 1 (T23.map cvO)] :: B.map tbO) = (A ++ (colsOf L, T22, T23) :: B).map tbO by simp, List.getElem?_map, e4]
  rfl
 unfold c145; simp
 refine twp_forR L.length (fun j s => ∃ Q : List Int, isTk (colsOf L) j Q ∧ Q.length = j ∧ s.t 1 = .i .i64 i ∧ s.t 2 = .i .i64 k ∧ s.t 3 = .sl false 5 (L.map clT) ∧ s.t 4 = .pt [(6, 0)] 0 0 ∧ s.t 8 = .pt [(10, 0)] 0 0 ∧ s.t 10 = .rf [(31, 0)] 0 Q.length ∧ s.t 11 = .i .i64 j ∧ s.H = lk [(1, [.junk, .junk, .junk, .junk]), (6, [.po true [.sl true 1 (g.map iT), .sl true 1 (f.map iT), .sl true 3 (ts.map tbO), .sl true 4 (rs.map vT)]]), (10, [.po true [.sl true 1 [], .sl true 1 [], .sl true 3 [], .sl true 4 []]]), (31, [.sl true 1 (Q.map iT)])]) [30] [(17, 31)] (by simp) (by simp) ?_ ?_
 ·refine ⟨[], rfl, rfl, ?_⟩
  simp
 ·rintro j s hj ⟨Q, hQ, hQl, q1, q2, q3, q4, q8, q10, q11, qH⟩
  rw [nf_of qH]
  have hw : IntKind.i64.wrap ((j : Int) + 1) = j + 1 := wrap_id (by omega) (by omega)
  cases hb9 : decide (j < L.length)
  rotate_left
  ·have hlt := of_decide_eq_true hb9
   obtain ⟨x, hx⟩ := get_some hlt
   have hx2 : (colsOf L)[j]? = some x.1 := by simp [colsOf, hx]
   simp [q1, q2, q3, q4, q8, q10, q11, hb9, hx, hw]
   refine ⟨by omega, hlt, Q ++ [x.1], hQ.snoc hx2, by simp [hQl], ?_⟩
   simp
  ·have hge := of_decide_eq_false hb9
   obtain rfl : j = L.length := by omega
   have hQ2 : Q = colsOf L := hQ.trans (List.take_of_length_le (by omega))
   subst hQ2
   simp [q1, q2, q3, q4, q8, q10, q11, hb9]
   refine callW_ms [.own, .ro] ?_
   simp
   refine callX_of hT (by simp) ?_
   have hA0 : ¬ ((A.length : Int) < 0) := by omega
   simp [q1, q2, q3, q4, q8, q10, q11, hti, he, hA0, e5, Ne.symm e5]
   have hil : i < A.length + (B.length + 1) := by have := (List.getElem?_eq_some_iff.1 e4).1; simpa using this
   have hkl : k < t.2.1.length := (List.getElem?_eq_some_iff.1 he).1
   obtain ⟨e8, e9, e10⟩ := e8
   refine ⟨by omega, by omega, hkl, by omega, by omega, ?_⟩
   obtain ⟨R, hR⟩ : ∃ R, R = T22 ++ [e] := ⟨_, rfl⟩
   have eR : List.map eT T22 ++ [[TV.i .i64 e.1, TV.i .i64 e.2]] = R.map eT := by rw [hR]; simp
   rw [eR]
   have htlen : t.2.1.length ≤ 2^36 ∧ t.2.2.length ≤ 2^36 ∧ ∀ v ∈ t.2.2, v.length = t.2.1.length := by
    have hm := List.mem_of_getElem? ht
    exact ⟨hto t hm, by rw [hC t hm]; exact hok t hm, hv t hm⟩
   have htm : t ∈ A ++ (colsOf L, T22, T23) :: B := List.mem_of_getElem? e4
   clear hti hT hQ hQl
   refine twp_for L.length (fun j s => ∃ Z : List (List ValP), isZip T23 L j Z ∧ Z.length = j ∧ s.t 1 = .i .i64 i ∧ s.t 2 = .i .i64 k ∧ s.t 3 = .sl false 5 (L.map clT) ∧ s.t 8 = .pt [(10, 0)] 0 0 ∧ s.t 12 = .pt [(14, 0)] 0 0 ∧ s.t 13 = .i .i64 A.length ∧ s.t 14 = .i .i64 j ∧ s.H = lk [(1, [.junk, .junk, .junk, .junk]), (6, [.po true [.junk, .junk, .junk, .junk]]), (10, [.po true [.sl true 1 [], .sl true 1 [], .sl true 3 [], .sl true 4 []]]), (14, [.po true [.sl true 1 (g.map iT), .sl true 1 (f.map iT), .sl true 3 (A.map tbO ++ [.sl true 1 ((colsOf L).map iT), .sl true 2 (R.map eT), .sl true 1 (Z.map cvO ++ (T23.map cvO).drop j)] :: B.map tbO), .sl true 4 (rs.map vT)]])]) [31, 35, 59, 60, 90, 91] (by simp) ?_ ?_
   ·refine ⟨[], rfl, rfl, ?_⟩
    simp [q1, q2, q3, q4, q8, q10, q11]
   ·rintro j s hj ⟨Z, hZ, hZl, q1, q2, q3, q8, q12, q13, q14, qH⟩
    rw [nf_of qH]
    have hw : IntKind.i64.wrap ((j : Int) + 1) = j + 1 := wrap_id (by omega) (by omega)
    cases hb9 : decide (j < L.length)
    ·have hge := of_decide_eq_false hb9
     obtain rfl : j = L.length := by omega
     have hd : (T23.map cvO).drop L.length = [] := List.drop_eq_nil_of_le (by simp; omega)
     have hZ2 : Z = List.zipWith (fun vs x => vs ++ [x.2]) T23 L := Eq.trans hZ (zipUp_all e6)
     obtain ⟨ts2, hts2⟩ : ∃ ts2, ts2 = A ++ (colsOf L, R, Z) :: B := ⟨_, rfl⟩
     have hti2 : ts2[i]? = some t := by rw [hts2, ← get_mid_ne e5 (colsOf L, T22, T23) (colsOf L, R, Z)]; exact e4
     have hTS2 : TS = leaveAt ts2 i k := by rw [hTS, hts2, hR, hZ2]; rfl
     obtain ⟨s1, s2⟩ := split_at hti2
     have hla : leaveAt ts2 i k = ts2.take i ++ leaveT t k :: ts2.drop (i + 1) := by
      have h1 := leaveAt_mid (A := ts2.take i) (B := ts2.drop (i + 1)) (t := t) (k := k)
      rw [← s1, s2] at h1
      exact h1
     have hl2 : ts2.length = A.length + (B.length + 1) := by rw [hts2]; simp
     have hLv := w146 g f (ts2.take i) (ts2.drop (i + 1)) t rs k (by simp; omega) (by simp; omega) hkl htlen.1 htlen.2.1 htlen.2.2
     rw [← s1, s2, ← hla, ← hTS2, hts2] at hLv
     simp only [List.map_append, List.map_cons, tbO, worldO] at hLv
     simp [q1, q2, q3, q8, q12, q13, q14, hb9, hd]
     refine callW_ms [.own, .ro, .ro] ?_
     simp
     refine callX_of hLv (by simp) ?_
     simp [q8]
    ·have hlt := of_decide_eq_true hb9
     obtain ⟨x, hx⟩ := get_some hlt
     obtain ⟨vs, hvs⟩ : ∃ vs, T23[j]? = some vs := get_some (by omega)
     have hvl := e8 vs (List.mem_of_getElem? hvs)
     simp [q1, q2, q3, q8, q12, q13, q14, hb9, hx, hw, drop_at hvs, hZl]
     refine ⟨by omega, by omega, by omega, by omega, hlt, Z ++ [vs ++ [x.2]], ?_, by simp [hZl], ?_⟩
     ·unfold isZip at hZ ⊢
      rw [hZ, zipUp_succ hvs hx]
     ·simp
end Go.Proofs.YtehmdblkkpdmoaaT


namespace Go.Proofs.YtehmdblkkpdmoaaT
set_option linter.unusedVariables false
set_option linter.unusedSimpArgs false
open Go
def c132 : TCode := (.seq (.ops [⟨(some 4), 6, .box 4 (.t 0), none, []⟩, ⟨(some 5), 7, .box 2 (.t 1), none, []⟩, ⟨(some 7), 9, .box 4 (.t 3), none, []⟩, ⟨(some 8), 10, .box 4 (.c (.ag [(.sl true 1 []), (.sl true 1 []), (.sl true 3 []), (.sl true 4 [])])), none, []⟩, ⟨(some 9), 11, .mv (.c (.i .i64 0)), none, []⟩])
 (.seq (.seq (.ops [⟨(some 17), 19, .faddr 0 2 (.t 4), none, []⟩, ⟨(some 18), 20, .load true 2 (.t 17), none, []⟩, ⟨(some 19), 21, .load true 2 (.t 5), none, []⟩, ⟨(some 20), 22, .call 53 [((.t 18), 0), ((.t 19), 0)], none, []⟩, ⟨(some 21), 23, .un .not (.t 20), none, []⟩])
 (.cond (.t 21)
 (.seq (.ops [⟨(some 22), 24, .load true 4 (.t 4), none, []⟩, ⟨none, 1002001, .store 4 (.t 8) (.t 22), none, []⟩, ⟨(some 9), 11, .mv (.c (.i .i64 2)), none, []⟩])
 .ret)
 .skip))
 (.seq (.ops [⟨(some 24), 26, .load true 4 (.t 4), none, []⟩, ⟨(some 25), 27, .load true 2 (.t 5), none, []⟩, ⟨(some 26), 28, .call 54 [((.t 24), 0), ((.t 25), 0)], none, []⟩, ⟨(some 23), 25, .mv (.t 26), none, []⟩, ⟨(some 27), 29, .ext 0 (.t 23), none, []⟩, ⟨(some 28), 30, .ext 1 (.t 23), none, []⟩, ⟨(some 10), 12, .mv (.t 27), none, []⟩, ⟨(some 11), 13, .mv (.t 28), none, []⟩])
 (.seq (.ops [⟨(some 29), 31, .faddr 2 1 (.t 4), none, []⟩, ⟨(some 30), 32, .load false 1 (.t 29), none, []⟩, ⟨(some 31), 33, .mv (.t 10), none, []⟩, ⟨(some 32), 34, .iaddr 3 (.t 30) (.t 31), none, []⟩, ⟨(some 33), 35, .faddr 0 1 (.t 32), none, []⟩, ⟨(some 34), 36, .load false 1 (.t 33), none, []⟩, ⟨(some 35), 37, .mv (.t 2), none, []⟩, ⟨(some 36), 38, .call 55 [((.t 34), 0), ((.t 35), 0)], none, []⟩, ⟨(some 12), 14, .mv (.t 36), none, []⟩])
 (.seq (.seq (.ops [⟨(some 37), 39, .mv (.t 12), none, []⟩, ⟨(some 38), 40, .bin .geq (.t 37) (.c (.i .i64 0)), none, []⟩])
 (.cond (.t 38)
 (.seq (.draw [⟨(some 39), 41, .faddr 2 1 (.t 4), none, []⟩, ⟨(some 40), 42, .load false 1 (.t 39), none, []⟩, ⟨(some 41), 43, .mv (.t 10), none, []⟩, ⟨(some 42), 44, .iaddr 3 (.t 40) (.t 41), none, []⟩, ⟨(some 43), 45, .faddr 2 1 (.t 42), none, []⟩, ⟨(some 44), 46, .load false 1 (.t 43), none, []⟩, ⟨(some 45), 47, .mv (.t 12), none, []⟩, ⟨(some 46), 48, .iaddr 1 (.t 44) (.t 45), none, []⟩, ⟨(some 47), 49, .load false 1 (.t 46), none, []⟩, ⟨(some 48), 50, .mv (.t 11), none, []⟩, ⟨(some 49), 51, .load true 4 (.t 7), none, []⟩, ⟨(some 50), 52, .iaddr 4 (.t 47) (.t 48), none, []⟩, ⟨none, 1006012, .store 4 (.t 50) (.t 49), none, []⟩])
 (.seq (.ops [⟨(some 51), 53, .load true 4 (.t 4), none, []⟩, ⟨none, 1007001, .store 4 (.t 8) (.t 51), none, []⟩, ⟨(some 9), 11, .mv (.c (.i .i64 0)), none, []⟩])
 .ret))
 .skip))
 (.seq (.ops [⟨(some 52), 54, .bslice 5 0 [(.i .i64 0), (.i .i64 0), (.i .i64 0), (.f 0), (.f 0)] [], none, []⟩, ⟨(some 13), 15, .mv (.t 52), none, []⟩])
 (.seq (.ops [⟨(some 53), 55, .load true 4 (.t 4), none, []⟩, ⟨(some 54), 56, .mv (.t 10), none, []⟩, ⟨(some 55), 57, .mv (.t 11), none, []⟩, ⟨(some 56), 58, .call 144 [((.t 53), 0), ((.t 54), 0), ((.t 55), 0)], none, []⟩, ⟨(some 14), 16, .mv (.t 56), none, []⟩])
 (.seq (.ops [⟨(some 15), 17, .mv (.c (.b false)), none, []⟩])
 (.seq (.seq (.ops [⟨(some 16), 18, .mv (.c (.i .i64 0)), none, []⟩])
 (.block 0 (.loop (.seq (.seq (.ops [⟨(some 57), 59, .mv (.t 16), none, []⟩, ⟨(some 58), 60, .mv (.t 14), none, []⟩, ⟨(some 59), 61, .len false (.t 58), none, []⟩, ⟨(some 60), 62, .bin .lss (.t 57) (.t 59), none, []⟩])
 (.cond (.t 60)
 .skip
 (.exit 0)))
 (.seq (.block 1 (.seq (.seq (.ops [⟨(some 63), 65, .mv (.t 15), none, []⟩, ⟨(some 64), 66, .un .not (.t 63), none, []⟩, ⟨(some 65), 67, .mv (.t 64), none, []⟩, ⟨(some 66), 68, .mv (.t 14), (some (65, true)), []⟩, ⟨(some 67), 69, .mv (.t 16), (some (65, true)), []⟩, ⟨(some 68), 70, .iaddr 5 (.t 66) (.t 67), (some (65, true)), []⟩, ⟨(some 69), 71, .faddr 0 1 (.t 68), (some (65, true)), []⟩, ⟨(some 70), 72, .load false 1 (.t 69), (some (65, true)), []⟩, ⟨(some 71), 73, .mv (.t 2), (some (65, true)), []⟩, ⟨(some 72), 74, .bin .gtr (.t 70) (.t 71), (some (65, true)), []⟩, ⟨(some 73), 75, .pick (.t 65) (.t 72) (.c (.b false)), none, []⟩])
 (.cond (.t 73)
 (.seq (.ops [⟨(some 74), 76, .mv (.t 13), none, []⟩, ⟨(some 75), 77, .mv (.t 2), none, []⟩, ⟨(some 76), 78, .load true 4 (.t 7), none, []⟩, ⟨(some 77), 79, .build [(.i .i64 0), (.i .i64 0), (.i .i64 0), (.f 0), (.f 0)] [(0, 1, (.t 75)), (1, 4, (.t 76))], none, []⟩, ⟨(some 78), 80, .bslice 5 1 [(.i .i64 0), (.i .i64 0), (.i .i64 0), (.f 0), (.f 0)] [(0, (.t 77))], none, []⟩, ⟨(some 79), 81, .app 5 40 (.t 74) (.t 78), none, []⟩, ⟨(some 13), 15, .mv (.t 79), none, []⟩])
 (.ops [⟨(some 15), 17, .mv (.c (.b true)), none, []⟩]))
 .skip))
 (.ops [⟨(some 80), 82, .mv (.t 13), none, []⟩, ⟨(some 81), 83, .mv (.t 14), none, []⟩, ⟨(some 82), 84, .mv (.t 16), none, []⟩, ⟨(some 83), 85, .iaddr 5 (.t 81) (.t 82), none, []⟩, ⟨(some 84), 86, .load true 5 (.t 83), none, []⟩, ⟨(some 85), 87, .bslice 5 1 [(.i .i64 0), (.i .i64 0), (.i .i64 0), (.f 0), (.f 0)] [(0, (.t 84))], none, []⟩, ⟨(some 86), 88, .app 5 40 (.t 80) (.t 85), none, []⟩, ⟨(some 13), 15, .mv (.t 86), none, []⟩])))
 (.ops [⟨(some 61), 63, .mv (.t 16), none, []⟩, ⟨(some 62), 64, .bin .add (.t 61) (.c (.i .i64 1)), none, []⟩, ⟨(some 16), 18, .mv (.t 62), none, []⟩]))))))
 (.seq (.seq (.ops [⟨(some 87), 89, .mv (.t 15), none, []⟩, ⟨(some 88), 90, .un .not (.t 87), none, []⟩])
 (.cond (.t 88)
 (.ops [⟨(some 89), 91, .mv (.t 13), none, []⟩, ⟨(some 90), 92, .mv (.t 2), none, []⟩, ⟨(some 91), 93, .load true 4 (.t 7), none, []⟩, ⟨(some 92), 94, .build [(.i .i64 0), (.i .i64 0), (.i .i64 0), (.f 0), (.f 0)] [(0, 1, (.t 90)), (1, 4, (.t 91))], none, []⟩, ⟨(some 93), 95, .bslice 5 1 [(.i .i64 0), (.i .i64 0), (.i .i64 0), (.f 0), (.f 0)] [(0, (.t 92))], none, []⟩, ⟨(some 94), 96, .app 5 40 (.t 89) (.t 93), none, []⟩, ⟨(some 13), 15, .mv (.t 94), none, []⟩])
 .skip))
 (.seq (.ops [⟨(some 95), 97, .load true 4 (.t 4), none, []⟩, ⟨(some 96), 98, .mv (.t 10), none, []⟩, ⟨(some 97), 99, .mv (.t 11), none, []⟩, ⟨(some 98), 100, .mv (.t 13), none, []⟩, ⟨(some 99), 101, .call 145 [((.t 95), 0), ((.t 96), 0), ((.t 97), 0), ((.t 98), 0)], none, []⟩, ⟨(some 100), 102, .ext 0 (.t 99), none, []⟩, ⟨(some 101), 103, .ext 1 (.t 99), none, []⟩, ⟨none, 1020007, .store 4 (.t 8) (.t 100), none, []⟩, ⟨(some 9), 11, .mv (.t 101), none, []⟩])
 .ret)))))))))))
theorem k132 : compCode Try.prog Try.f132.ntmps Try.f132.body.get! = some c132 := by kernel_rfl
theorem r132 : resTmps Try.prog Try.f132.results.toList = some [.cell 8 true 4, .tmp 9] := by kernel_rfl
def insC (c : CellP) : List CellP → List CellP
 | [] => [c]
 | x :: xs => if c.1 < x.1 then c :: x :: xs else x :: insC c xs
def noGt (c : Int) (A : List CellP) : Prop := ∀ y ∈ A, ¬ c < y.1
def someGt (c : Int) (A : List CellP) : Prop := ∃ y ∈ A, c < y.1
theorem insC_all {c : CellP} {B : List CellP} : ∀ {A : List CellP}, noGt c.1 A → insC c (A ++ B) = A ++ insC c B
 | [], _ => rfl
 | a :: A, h => by
  simp only [List.cons_append, insC]
  rw [if_neg (h a (by simp)), insC_all fun y hy => h y (by simp [hy])]
theorem insC_some {c : CellP} {B : List CellP} : ∀ {A : List CellP}, someGt c.1 A → insC c (A ++ B) = insC c A ++ B
 | [], h => by obtain ⟨y, hy, _⟩ := h; cases hy
 | a :: A, h => by
  simp only [List.cons_append, insC]
  by_cases h1 : c.1 < a.1
  ·rw [if_pos h1, if_pos h1]; rfl
  ·rw [if_neg h1, if_neg h1]
   obtain ⟨y, hy, h2⟩ := h
   rcases List.mem_cons.1 hy with rfl | hy
   ·exact absurd h2 h1
   ·rw [insC_some ⟨y, hy, h2⟩]; rfl
theorem insC_len (c : CellP) : ∀ A : List CellP, (insC c A).length = A.length + 1
 | [] => rfl
 | a :: A => by
  simp only [insC]
  split
  ·rfl
  ·simp [insC_len c A]
def putUp (c : CellP) (M : List CellP) (j : Nat) (Q : List CellP) (dn : Bool) : Prop := (dn = false ∧ noGt c.1 (M.take j) ∧ Q = M.take j) ∨ (dn = true ∧ someGt c.1 (M.take j) ∧ Q = insC c (M.take j))
theorem putUp.zero (c : CellP) (M : List CellP) : putUp c M 0 [] false := .inl ⟨rfl, fun y hy => by simp at hy, rfl⟩
theorem putUp.len {c : CellP} {M Q : List CellP} {j : Nat} {dn : Bool} (h : putUp c M j Q dn) : Q.length ≤ M.length + 1 := by
 rcases h with ⟨_, _, rfl⟩ | ⟨_, _, rfl⟩
 ·simp; omega
 ·rw [insC_len]; simp; omega
theorem putUp.new {c : CellP} {M Q : List CellP} {j : Nat} {x : CellP} (h : putUp c M j Q false) (hx : M[j]? = some x) (hc : c.1 < x.1) : putUp c M (j + 1) (Q ++ [c] ++ [x]) true := by
 rcases h with ⟨_, h1, rfl⟩ | ⟨h, _⟩
 ·refine .inr ⟨rfl, ⟨x, by rw [take_snoc hx]; simp, hc⟩, ?_⟩
  rw [take_snoc hx, insC_all h1]
  simp [insC, hc]
 ·cases h
theorem putUp.old {c : CellP} {M Q : List CellP} {j : Nat} {x : CellP} {dn : Bool} (h : putUp c M j Q dn) (hx : M[j]? = some x) (hc : dn = true ∨ ¬ c.1 < x.1) : putUp c M (j + 1) (Q ++ [x]) dn := by
 rcases h with ⟨rfl, h1, rfl⟩ | ⟨rfl, ⟨y, hy, h2⟩, rfl⟩
 ·have h2 : ¬ c.1 < x.1 := hc.resolve_left (by decide)
  refine .inl ⟨rfl, fun y hy => ?_, (take_snoc hx).symm⟩
  rw [take_snoc hx] at hy
  rcases List.mem_append.1 hy with hy | hy
  ·exact h1 y hy
  ·rw [List.mem_singleton.1 hy]; exact h2
 ·refine .inr ⟨rfl, ⟨y, by rw [take_snoc hx]; simp [hy], h2⟩, ?_⟩
  rw [take_snoc hx, insC_some ⟨y, hy, h2⟩]
theorem putUp.done {c : CellP} {M Q : List CellP} (h : putUp c M M.length Q true) : Q = insC c M := by
 rcases h with ⟨h, _⟩ | ⟨_, _, h⟩
 ·cases h
 ·rwa [List.take_length] at h
theorem putUp.last {c : CellP} {M Q : List CellP} (h : putUp c M M.length Q false) : Q ++ [c] = insC c M := by
 rcases h with ⟨_, h1, h⟩ | ⟨h, _⟩
 ·rw [List.take_length] at h h1
  rw [h]
  have := insC_all (B := []) h1
  rw [List.append_nil] at this
  rw [this]; rfl
 ·cases h
def setTs (ts : List TableP) (i k m : Nat) (v : ValP) : List TableP := ts.modify i fun t => (t.1, t.2.1, t.2.2.modify m fun vs => vs.set k v)
instance (ts : List TableP) (cols : List Int) : Decidable (fullT ts cols) := by unfold fullT; infer_instance
theorem W145f (g f : List Int) (ts : List TableP) (rs : List ValP) (i k : Nat) (L : List CellP) (hok : ∀ t ∈ ts, t.1.length ≤ 2^36) (hl : ts.length ≤ 2^30) (hL : L.length ≤ 2^36) (hn : fullT ts (colsOf L)) : Contract Try.prog false 145 [.own, .ro, .ro, .ro] [worldO g f ts rs, .i .i64 i, .i .i64 k, .sl false 5 (L.map clT)] [worldO g f ts rs, .i .i64 3] [none, none, none, none] := by
 refine mk_contract [none, none, none, none] Try.func145 (c := Try.f145.body.get!) (by kernel_rfl) k145 r145 (of_decide_eq_true rfl) fun _ => ?_
 have hcl : (colsOf L).length = L.length := by simp [colsOf]
 have hT := W128f g f ts rs (colsOf L) hok (by omega) (by omega) hn
 unfold c145; simp
 refine twp_forR L.length (fun j s => ∃ Q : List Int, isTk (colsOf L) j Q ∧ Q.length = j ∧ s.t 1 = .i .i64 i ∧ s.t 2 = .i .i64 k ∧ s.t 3 = .sl false 5 (L.map clT) ∧ s.t 4 = .pt [(6, 0)] 0 0 ∧ s.t 8 = .pt [(10, 0)] 0 0 ∧ s.t 10 = .rf [(31, 0)] 0 Q.length ∧ s.t 11 = .i .i64 j ∧ s.H = lk [(1, [.junk, .junk, .junk, .junk]), (6, [.po true [.sl true 1 (g.map iT), .sl true 1 (f.map iT), .sl true 3 (ts.map tbO), .sl true 4 (rs.map vT)]]), (10, [.po true [.sl true 1 [], .sl true 1 [], .sl true 3 [], .sl true 4 []]]), (31, [.sl true 1 (Q.map iT)])]) [30] [(17, 31)] (by simp) (by simp) ?_ ?_
 ·refine ⟨[], rfl, rfl, ?_⟩
  simp
 ·rintro j s hj ⟨Q, hQ, hQl, q1, q2, q3, q4, q8, q10, q11, qH⟩
  rw [nf_of qH]
  have hw : IntKind.i64.wrap ((j : Int) + 1) = j + 1 := wrap_id (by omega) (by omega)
  cases hb9 : decide (j < L.length)
  rotate_left
  ·have hlt := of_decide_eq_true hb9
   obtain ⟨x, hx⟩ := get_some hlt
   have hx2 : (colsOf L)[j]? = some x.1 := by simp [colsOf, hx]
   simp [q1, q2, q3, q4, q8, q10, q11, hb9, hx, hw]
   refine ⟨by omega, hlt, Q ++ [x.1], hQ.snoc hx2, by simp [hQl], ?_⟩
   simp
  ·have hge := of_decide_eq_false hb9
   obtain rfl : j = L.length := by omega
   have hQ2 : Q = colsOf L := hQ.trans (List.take_of_length_le (by omega))
   subst hQ2
   simp [q1, q2, q3, q4, q8, q10, q11, hb9]
   refine callW_ms [.ro, .ro] ?_
   simp
   refine callX_of hT (by simp) ?_
   simp [q1, q2, q3, q4, q8, q10, q11]
structure AtP (ts : List TableP) (i k : Nat) (t : TableP) (e : Int × Int) : Prop where
 ht : ts[i]? = some t
 he : t.2.1[k]? = some e
 hw : whereG e ts 0 = ((i : Int), (k : Int))
structure EvenP (ts : List TableP) : Prop where
 n : ts.length ≤ 2^30
 c : ∀ t ∈ ts, t.1.length ≤ 2^30
 r : ∀ t ∈ ts, t.2.1.length ≤ 2^36
 s : ∀ t ∈ ts, t.2.2.length = t.1.length
 v : ∀ t ∈ ts, ∀ v ∈ t.2.2, v.length = t.2.1.length
theorem EvenP.okT {ts : List TableP} (h : EvenP ts) : ∀ t ∈ ts, okT t := fun t ht =>
 ⟨by have := h.c t ht; omega, h.r t ht, by have := h.c t ht; rw [h.s t ht]; omega, fun v hv => by rw [h.v t ht v hv]; exact h.r t ht⟩
def putTs (ts : List TableP) (i k : Nat) (t : TableP) (e : Int × Int) (c : CellP) : List TableP × Int :=
 if 0 ≤ idxF t.1 c.1 then (setTs ts i k (idxF t.1 c.1).toNat c.2, 0)
 else if fullT ts (colsOf (insC c (rowL t k))) then (ts, 3) else (moveTs ts i k e (insC c (rowL t k)), 0)
theorem map_mod2 {α : Type} {f : α → List TV} {l : List α} {k : Nat} {y : α} {g : α → α} {φ : List TV → List TV} (hy : l[k]? = some y) (h : φ (f y) = f (g y)) : (l.map f).modify k φ = (l.modify k g).map f := by
 rw [map_mod hy h]
 congr 1
 apply List.ext_getElem?
 intro i
 have hl := (List.getElem?_eq_some_iff.1 hy).1
 by_cases hi : i = k
 ·subst hi; simp [List.getElem?_modify, hl, hy]
  exact (List.getElem?_eq_some_iff.1 hy).2 ▸ rfl
 ·simp [List.getElem?_set_ne (Ne.symm hi), List.getElem?_modify, Ne.symm hi]
end Go.Proofs.YtehmdblkkpdmoaaT


namespace Go.Proofs.YtehmdblkkpdmoaaT
set_option linter.unusedVariables false
set_option linter.unusedSimpArgs false
open Go
def c142 : TCode := (.seq (.ops [⟨(some 1), 3, .box 2 (.t 0), none, []⟩, ⟨(some 2), 4, .box 2 (.c (.ag [(.sl true 1 []), (.sl true 1 [])])), none, []⟩, ⟨(some 3), 5, .box 2 (.c (.ag [(.i .i64 0), (.i .i64 0)])), none, []⟩, ⟨(some 4), 6, .mv (.c (.i .i64 0)), none, []⟩])
 (.seq (.seq (.ops [⟨(some 7), 9, .faddr 1 1 (.t 1), none, []⟩, ⟨(some 8), 10, .load false 1 (.t 7), none, []⟩, ⟨(some 9), 11, .len false (.t 8), none, []⟩, ⟨(some 5), 7, .mv (.t 9), none, []⟩])
 (.seq (.ops [⟨(some 10), 12, .mv (.t 5), none, []⟩, ⟨(some 11), 13, .bin .gtr (.t 10) (.c (.i .i64 0)), none, []⟩])
 (.cond (.t 11)
 (.seq (.ops [⟨(some 12), 14, .faddr 1 1 (.t 1), none, []⟩, ⟨(some 13), 15, .load false 1 (.t 12), none, []⟩, ⟨(some 14), 16, .mv (.t 5), none, []⟩, ⟨(some 15), 17, .bin .sub (.t 14) (.c (.i .i64 1)), none, []⟩, ⟨(some 16), 18, .iaddr 1 (.t 13) (.t 15), none, []⟩, ⟨(some 17), 19, .load false 1 (.t 16), none, []⟩, ⟨(some 6), 8, .mv (.t 17), none, []⟩])
 (.seq (.ops [⟨(some 18), 20, .bslice 1 0 [(.i .i64 0)] [], none, []⟩, ⟨(some 19), 21, .faddr 1 1 (.t 1), none, []⟩, ⟨(some 20), 22, .load false 1 (.t 19), none, []⟩, ⟨(some 21), 23, .mv (.t 5), none, []⟩, ⟨(some 22), 24, .bin .sub (.t 21) (.c (.i .i64 1)), none, []⟩, ⟨(some 23), 25, .slice false 1 (.t 20) none (some (.t 22)), none, []⟩, ⟨(some 24), 26, .app 1 8 (.t 18) (.t 23), none, []⟩, ⟨(some 25), 27, .faddr 1 1 (.t 1), none, []⟩, ⟨none, 1004008, .store 1 (.t 25) (.t 24), none, []⟩])
 (.seq (.draw [⟨(some 26), 28, .load true 2 (.t 1), none, []⟩, ⟨(some 27), 29, .mv (.t 6), none, []⟩, ⟨(some 28), 30, .faddr 0 1 (.t 1), none, []⟩, ⟨(some 29), 31, .load false 1 (.t 28), none, []⟩, ⟨(some 30), 32, .mv (.t 6), none, []⟩, ⟨(some 31), 33, .iaddr 1 (.t 29) (.t 30), none, []⟩, ⟨(some 32), 34, .load false 1 (.t 31), none, []⟩, ⟨(some 33), 35, .build [(.i .i64 0), (.i .i64 0)] [(0, 1, (.t 27)), (1, 1, (.t 32))], none, []⟩, ⟨none, 1005008, .store 2 (.t 2) (.t 26), none, [1000000, 1, 2, 3, 4, 5, 6, 7]⟩, ⟨none, 1005009, .store 2 (.t 3) (.t 33), none, []⟩, ⟨(some 4), 6, .mv (.c (.i .i64 0)), none, []⟩])
 .ret)))
 .skip)))
 (.seq (.seq (.ops [⟨(some 34), 36, .faddr 0 1 (.t 1), none, []⟩, ⟨(some 35), 37, .load false 1 (.t 34), none, []⟩, ⟨(some 36), 38, .len false (.t 35), none, []⟩, ⟨(some 37), 39, .bin .geq (.t 36) (.c (.i .i64 2000)), none, []⟩])
 (.cond (.t 37)
 (.seq (.ops [⟨(some 38), 40, .load true 2 (.t 1), none, []⟩, ⟨(some 39), 41, .build [(.i .i64 0), (.i .i64 0)] [], none, []⟩, ⟨none, 1007002, .store 2 (.t 2) (.t 38), none, []⟩, ⟨none, 1007003, .store 2 (.t 3) (.t 39), none, []⟩, ⟨(some 4), 6, .mv (.c (.i .i64 3)), none, []⟩])
 .ret)
 .skip))
 (.seq (.ops [⟨(some 40), 42, .faddr 0 1 (.t 1), none, []⟩, ⟨(some 41), 43, .load false 1 (.t 40), none, []⟩, ⟨(some 42), 44, .bslice 1 1 [(.i .i64 0)] [(0, (.c (.i .i64 0)))], none, []⟩, ⟨(some 43), 45, .app 1 8 (.t 41) (.t 42), none, []⟩, ⟨(some 44), 46, .faddr 0 1 (.t 1), none, []⟩, ⟨none, 1008005, .store 1 (.t 44) (.t 43), none, []⟩])
 (.seq (.draw [⟨(some 45), 47, .load true 2 (.t 1), none, []⟩, ⟨(some 46), 48, .faddr 0 1 (.t 1), none, []⟩, ⟨(some 47), 49, .load false 1 (.t 46), none, []⟩, ⟨(some 48), 50, .len false (.t 47), none, []⟩, ⟨(some 49), 51, .bin .sub (.t 48) (.c (.i .i64 1)), none, []⟩, ⟨(some 50), 52, .build [(.i .i64 0), (.i .i64 0)] [(0, 1, (.t 49))], none, []⟩, ⟨none, 1009006, .store 2 (.t 2) (.t 45), none, [1000000, 1, 2, 3, 4, 5]⟩, ⟨none, 1009007, .store 2 (.t 3) (.t 50), none, []⟩, ⟨(some 4), 6, .mv (.c (.i .i64 0)), none, []⟩])
 .ret)))))
theorem k142 : compCode Try.prog Try.f142.ntmps Try.f142.body.get! = some c142 := by kernel_rfl
theorem r142 : resTmps Try.prog Try.f142.results.toList = some [.cell 2 true 2, .cell 3 true 2, .tmp 4] := by kernel_rfl
def takeP (g f : List Int) : (List Int × List Int) × (Int × Int) × Int :=
 if f = [] then (if 2000 ≤ g.length then ((g, f), (0, 0), 3) else ((g ++ [0], f), (g.length, 0), 0))
 else ((g, f.dropLast), (f.getLastD 0, g.getD (f.getLastD 0).toNat 0), 0)
theorem takeP_snoc (g f : List Int) (x y : Int) (h : g[x.toNat]? = some y) : takeP g (f ++ [x]) = ((g, f), (x, y), 0) := by
 simp [takeP, h]
theorem w142 (g f : List Int) (hg : g.length ≤ 2^40) (hf : f.length ≤ 2^40) (hx : ∀ x ∈ f, 0 ≤ x ∧ x < g.length) : Contract Try.prog false 142 [.own] [entsO g f] [entsO (takeP g f).1.1 (takeP g f).1.2, entT (takeP g f).2.1.1 (takeP g f).2.1.2, .i .i64 (takeP g f).2.2] [none, none] := by
 refine mk_contract [none, none] Try.func142 (c := Try.f142.body.get!) (by kernel_rfl) k142 r142 (of_decide_eq_true rfl) fun _ => ?_
 rcases List.eq_nil_or_concat f with rfl | ⟨f0, x, rfl⟩
 ·have hw : IntKind.i64.wrap (g.length : Int) = g.length := wrap_id (by omega) (by omega)
  unfold c142; unfold entsO entT; simp
  by_cases h : 2000 ≤ g.length
  ·simp [takeP, h]; omega
  ·simp [takeP, h, hw]
   omega
 ·simp only [List.concat_eq_append] at hf hx ⊢
  obtain ⟨h1, h2⟩ := hx x (by simp)
  obtain ⟨y, hy⟩ : ∃ y, g[x.toNat]? = some y := ⟨g[x.toNat]'(by omega), List.getElem?_eq_getElem (by omega)⟩
  rw [takeP_snoc g f0 x y hy]
  have hf' : f0.length + 1 ≤ 2^40 := by simpa using hf
  have hw : IntKind.i64.wrap (f0.length : Int) = f0.length := wrap_id (by omega) (by omega)
  by_cases h0 : f0 = []
  ·have hw0 : IntKind.i64.wrap 0 = 0 := wrap_id (by omega) (by omega)
   subst h0
   unfold c142; unfold entsO entT; simp [h1, hy, offE, hw0]
   omega
  ·have hO : offE 0 f0.length = 0 := by simp [offE, h0]
   have hT : (List.map iT f0 ++ [[TV.i .i64 x]]).take f0.length = List.map iT f0 := by simp
   unfold c142; unfold entsO entT; simp [hw, h1, hy, hO, hT]
   omega
theorem freeOk_mem {n : Nat} {f : List Int} (h : freeOk n f) : ∀ x ∈ f, 0 ≤ x ∧ x < n := by
 exact h.1
end Go.Proofs.YtehmdblkkpdmoaaT


namespace Go.Proofs.YtehmdblkkpdmoaaT
set_option linter.unusedVariables false
set_option linter.unusedSimpArgs false
open Go
def c131 : TCode := (.seq (.ops [⟨(some 2), 4, .box 4 (.t 0), none, []⟩, ⟨(some 4), 6, .box 4 (.c (.ag [(.sl true 1 []), (.sl true 1 []), (.sl true 3 []), (.sl true 4 [])])), none, []⟩, ⟨(some 5), 7, .box 2 (.c (.ag [(.i .i64 0), (.i .i64 0)])), none, []⟩, ⟨(some 6), 8, .mv (.c (.i .i64 0)), none, []⟩])
 (.seq (.ops [⟨(some 16), 18, .faddr 0 2 (.t 2), none, []⟩, ⟨(some 17), 19, .load true 2 (.t 16), none, []⟩, ⟨(some 18), 20, .call 143 [((.t 17), 0)], none, []⟩, ⟨(some 19), 21, .call 142 [((.t 18), 0)], none, []⟩, ⟨(some 15), 17, .mv (.t 19), none, []⟩, ⟨(some 20), 22, .ext 0 (.t 15), none, []⟩, ⟨(some 21), 23, .ext 1 (.t 15), none, []⟩, ⟨(some 22), 24, .ext 2 (.t 15), none, []⟩, ⟨(some 7), 9, .box 2 (.c (.ag [(.sl true 1 []), (.sl true 1 [])])), none, []⟩, ⟨(some 8), 10, .box 2 (.c (.ag [(.i .i64 0), (.i .i64 0)])), none, []⟩, ⟨none, 1001010, .store 2 (.t 7) (.t 20), none, []⟩, ⟨none, 1001011, .store 2 (.t 8) (.t 21), none, []⟩, ⟨(some 9), 11, .mv (.t 22), none, []⟩])
 (.seq (.seq (.ops [⟨(some 23), 25, .mv (.t 9), none, []⟩, ⟨(some 24), 26, .bin .neq (.t 23) (.c (.i .i64 0)), none, []⟩])
 (.cond (.t 24)
 (.seq (.ops [⟨(some 25), 27, .load true 4 (.t 2), none, []⟩, ⟨(some 26), 28, .build [(.i .i64 0), (.i .i64 0)] [], none, []⟩, ⟨none, 1003002, .store 4 (.t 4) (.t 25), none, []⟩, ⟨none, 1003003, .store 2 (.t 5) (.t 26), none, []⟩, ⟨(some 6), 8, .mv (.c (.i .i64 3)), none, []⟩])
 .ret)
 .skip))
 (.seq (.ops [⟨(some 27), 29, .bslice 1 0 [(.i .i64 0)] [], none, []⟩, ⟨(some 10), 12, .mv (.t 27), none, []⟩])
 (.seq (.seq (.ops [⟨(some 11), 13, .mv (.c (.i .i64 0)), none, []⟩])
 (.block 0 (.loop (.seq (.seq (.ops [⟨(some 28), 30, .mv (.t 11), none, []⟩, ⟨(some 29), 31, .mv (.t 1), none, []⟩, ⟨(some 30), 32, .len false (.t 29), none, []⟩, ⟨(some 31), 33, .bin .lss (.t 28) (.t 30), none, []⟩])
 (.cond (.t 31)
 .skip
 (.exit 0)))
 (.seq (.block 1 (.ops [⟨(some 34), 36, .mv (.t 10), none, []⟩, ⟨(some 35), 37, .mv (.t 1), none, []⟩, ⟨(some 36), 38, .mv (.t 11), none, []⟩, ⟨(some 37), 39, .iaddr 5 (.t 35) (.t 36), none, []⟩, ⟨(some 38), 40, .faddr 0 1 (.t 37), none, []⟩, ⟨(some 39), 41, .load false 1 (.t 38), none, []⟩, ⟨(some 40), 42, .bslice 1 1 [(.i .i64 0)] [(0, (.t 39))], none, []⟩, ⟨(some 41), 43, .app 1 8 (.t 34) (.t 40), none, []⟩, ⟨(some 10), 12, .mv (.t 41), none, []⟩]))
 (.ops [⟨(some 32), 34, .mv (.t 11), none, []⟩, ⟨(some 33), 35, .bin .add (.t 32) (.c (.i .i64 1)), none, []⟩, ⟨(some 11), 13, .mv (.t 33), none, []⟩]))))))
 (.seq (.ops [⟨(some 43), 45, .load true 4 (.t 2), none, []⟩, ⟨(some 44), 46, .mv (.t 10), none, []⟩, ⟨(some 45), 47, .call 128 [((.t 43), 0), ((.t 44), 0)], none, []⟩, ⟨(some 42), 44, .mv (.t 45), none, []⟩, ⟨(some 46), 48, .ext 0 (.t 42), none, []⟩, ⟨(some 47), 49, .ext 1 (.t 42), none, []⟩, ⟨(some 12), 14, .box 4 (.c (.ag [(.sl true 1 []), (.sl true 1 []), (.sl true 3 []), (.sl true 4 [])])), none, []⟩, ⟨none, 1009007, .store 4 (.t 12) (.t 46), none, []⟩, ⟨(some 13), 15, .mv (.t 47), none, []⟩])
 (.seq (.seq (.ops [⟨(some 48), 50, .mv (.t 13), none, []⟩, ⟨(some 49), 51, .bin .lss (.t 48) (.c (.i .i64 0)), none, []⟩])
 (.cond (.t 49)
 (.seq (.ops [⟨(some 50), 52, .load true 4 (.t 2), none, []⟩, ⟨(some 51), 53, .build [(.i .i64 0), (.i .i64 0)] [], none, []⟩, ⟨none, 1011002, .store 4 (.t 4) (.t 50), none, []⟩, ⟨none, 1011003, .store 2 (.t 5) (.t 51), none, []⟩, ⟨(some 6), 8, .mv (.c (.i .i64 3)), none, []⟩])
 .ret)
 .skip))
 (.seq (.ops [⟨(some 52), 54, .load true 2 (.t 7), none, []⟩, ⟨(some 53), 55, .faddr 0 2 (.t 12), none, []⟩, ⟨none, 1012002, .store 2 (.t 53) (.t 52), none, []⟩])
 (.seq (.draw [⟨(some 54), 56, .faddr 2 1 (.t 12), none, []⟩, ⟨(some 55), 57, .load false 1 (.t 54), none, []⟩, ⟨(some 56), 58, .mv (.t 13), none, []⟩, ⟨(some 57), 59, .faddr 2 1 (.t 12), none, []⟩, ⟨(some 58), 60, .load false 1 (.t 57), none, []⟩, ⟨(some 59), 61, .mv (.t 13), none, []⟩, ⟨(some 60), 62, .iaddr 3 (.t 58) (.t 59), none, []⟩, ⟨(some 61), 63, .faddr 1 1 (.t 60), none, []⟩, ⟨(some 62), 64, .load false 1 (.t 61), none, []⟩, ⟨(some 63), 65, .load true 2 (.t 8), none, []⟩, ⟨(some 64), 66, .bslice 2 1 [(.i .i64 0), (.i .i64 0)] [(0, (.t 63))], none, [0, 1, 2, 3, 4, 5, 6, 7, 8]⟩, ⟨(some 65), 67, .app 2 16 (.t 62) (.t 64), none, [0, 1, 2]⟩, ⟨(some 66), 68, .iaddr 3 (.t 55) (.t 56), none, []⟩, ⟨(some 67), 69, .faddr 1 1 (.t 66), none, []⟩, ⟨none, 1013014, .store 1 (.t 67) (.t 65), none, []⟩])
 (.seq (.seq (.ops [⟨(some 14), 16, .mv (.c (.i .i64 0)), none, []⟩])
 (.block 2 (.loop (.seq (.seq (.ops [⟨(some 68), 70, .mv (.t 14), none, []⟩, ⟨(some 69), 71, .mv (.t 1), none, []⟩, ⟨(some 70), 72, .len false (.t 69), none, []⟩, ⟨(some 71), 73, .bin .lss (.t 68) (.t 70), none, []⟩])
 (.cond (.t 71)
 .skip
 (.exit 2)))
 (.seq (.block 3 (.draw [⟨(some 74), 76, .faddr 2 1 (.t 12), none, []⟩, ⟨(some 75), 77, .load false 1 (.t 74), none, []⟩, ⟨(some 76), 78, .mv (.t 13), none, []⟩, ⟨(some 77), 79, .iaddr 3 (.t 75) (.t 76), none, []⟩, ⟨(some 78), 80, .faddr 2 1 (.t 77), none, []⟩, ⟨(some 79), 81, .load false 1 (.t 78), none, []⟩, ⟨(some 80), 82, .mv (.t 14), none, []⟩, ⟨(some 81), 83, .faddr 2 1 (.t 12), none, []⟩, ⟨(some 82), 84, .load false 1 (.t 81), none, []⟩, ⟨(some 83), 85, .mv (.t 13), none, []⟩, ⟨(some 84), 86, .iaddr 3 (.t 82) (.t 83), none, []⟩, ⟨(some 85), 87, .faddr 2 1 (.t 84), none, []⟩, ⟨(some 86), 88, .load false 1 (.t 85), none, []⟩, ⟨(some 87), 89, .mv (.t 14), none, []⟩, ⟨(some 88), 90, .iaddr 1 (.t 86) (.t 87), none, []⟩, ⟨(some 89), 91, .load false 1 (.t 88), none, []⟩, ⟨(some 90), 92, .mv (.t 1), none, []⟩, ⟨(some 91), 93, .mv (.t 14), none, []⟩, ⟨(some 92), 94, .iaddr 5 (.t 90) (.t 91), none, []⟩, ⟨(some 93), 95, .faddr 1 4 (.t 92), none, []⟩, ⟨(some 94), 96, .load true 4 (.t 93), none, []⟩, ⟨(some 95), 97, .bslice 4 1 [(.i .i64 0), (.i .i64 0), (.f 0), (.f 0)] [(0, (.t 94))], none, [0, 1, 2, 3, 4, 5, 6, 7, 8, 9, 10, 11, 12, 13, 14, 15]⟩, ⟨(some 96), 98, .app 4 32 (.t 89) (.t 95), none, [0, 1, 2, 3, 4, 5, 6]⟩, ⟨(some 97), 99, .iaddr 1 (.t 79) (.t 80), none, []⟩, ⟨none, 1017024, .store 1 (.t 97) (.t 96), none, []⟩]))
 (.ops [⟨(some 72), 74, .mv (.t 14), none, []⟩, ⟨(some 73), 75, .bin .add (.t 72) (.c (.i .i64 1)), none, []⟩, ⟨(some 14), 16, .mv (.t 73), none, []⟩]))))))
 (.seq (.draw [⟨(some 98), 100, .load true 4 (.t 12), none, []⟩, ⟨(some 99), 101, .load true 2 (.t 8), none, []⟩, ⟨none, 1018002, .store 4 (.t 4) (.t 98), none, [1000000, 1]⟩, ⟨none, 1018003, .store 2 (.t 5) (.t 99), none, []⟩, ⟨(some 6), 8, .mv (.c (.i .i64 0)), none, []⟩])
 .ret)))))))))))
theorem k131 : compCode Try.prog Try.f131.ntmps Try.f131.body.get! = some c131 := by kernel_rfl
theorem r131 : resTmps Try.prog Try.f131.results.toList = some [.cell 4 true 4, .cell 5 true 2, .tmp 6] := by kernel_rfl
def spawnTs (ts : List TableP) (e : Int × Int) (L : List CellP) : List TableP := (tabW ts (colsOf L)).1.modify (tabW ts (colsOf L)).2 fun t => joinT t e L
def spawnP (g f : List Int) (ts : List TableP) (L : List CellP) : (List Int × List Int × List TableP) × (Int × Int) × Int :=
 if (takeP g f).2.2 = 0 ∧ ¬ fullT ts (colsOf L) then (((takeP g f).1.1, (takeP g f).1.2, spawnTs ts (takeP g f).2.1 L), (takeP g f).2.1, 0) else ((g, f, ts), (0, 0), 3)
set_option maxHeartbeats 4000000 in
set_option maxRecDepth 100000 in
theorem w131 (g f : List Int) (ts : List TableP) (rs : List ValP) (L : List CellP) (hg : g.length ≤ 2^36) (hf : f.length ≤ 2^36) (hx : ∀ x ∈ f, 0 ≤ x ∧ x < g.length) (E : EvenP ts) (hL : L.length ≤ 2^30) : Contract Try.prog false 131 [.own, .ro] [worldO g f ts rs, .sl false 5 (L.map clT)] [worldO (spawnP g f ts L).1.1 (spawnP g f ts L).1.2.1 (spawnP g f ts L).1.2.2 rs, .ag (eT (spawnP g f ts L).2.1), .i .i64 (spawnP g f ts L).2.2] [none, none, none, none] := by
 refine mk_contract [none, none, none, none] Try.func131 (c := Try.f131.body.get!) (by kernel_rfl) k131 r131 (of_decide_eq_true rfl) fun _ => ?_
 have hcl : (colsOf L).length = L.length := by simp [colsOf]
 have hCp := w143 g f (by omega) (by omega)
 have hTk := w142 g f (by omega) (by omega) hx
 have hl := E.n
 have hok : ∀ t ∈ ts, t.1.length ≤ 2^36 := fun t ht => by have := E.c t ht; omega
 have hto := E.r
 have hC := E.s
 have hv := E.v
 unfold spawnP
 generalize takeP g f = p at *
 obtain ⟨⟨g2, f2⟩, e, code⟩ := p
 simp only at hTk ⊢
 unfold entsO entsR entT at *
 by_cases hc0 : code = 0
 rotate_left
 ·rw [if_neg fun h => hc0 h.1]
  unfold c131; simp
  refine callW_ms [.ro] ?_
  simp
  refine callX_of hCp (by simp) ?_
  simp
  refine callW_ms [.own] ?_
  simp
  refine callX_of hTk (by simp) ?_
  simp [hc0]
 subst hc0
 by_cases hfu : fullT ts (colsOf L)
 ·rw [if_neg fun h => h.2 hfu]
  have hT := W128f g f ts rs (colsOf L) hok (by omega) (by omega) hfu
  unfold c131; simp
  refine callW_ms [.ro] ?_
  simp
  refine callX_of hCp (by simp) ?_
  simp
  refine callW_ms [.own] ?_
  simp
  refine callX_of hTk (by simp) ?_
  simp
  refine twp_forR L.length (fun j s => ∃ Q : List Int, isTk (colsOf L) j Q ∧ Q.length = j ∧ s.t 1 = .sl false 5 (L.map clT) ∧ s.t 2 = .pt [(4, 0)] 0 0 ∧ s.t 4 = .pt [(6, 0)] 0 0 ∧ s.t 5 = .pt [(7, 0)] 0 0 ∧ s.t 7 = .pt [(9, 0)] 0 0 ∧ s.t 8 = .pt [(10, 0)] 0 0 ∧ s.t 10 = .rf [(43, 0)] 0 Q.length ∧ s.t 11 = .i .i64 j ∧ s.H = lk [(1, [.junk, .junk, .junk, .junk]), (4, [.po true [.sl true 1 (g.map iT), .sl true 1 (f.map iT), .sl true 3 (ts.map tbO), .sl true 4 (rs.map vT)]]), (6, [.po true [.sl true 1 [], .sl true 1 [], .sl true 3 [], .sl true 4 []]]), (7, [.po true [.i .i64 0, .i .i64 0]]), (9, [.po true [.sl true 1 (g2.map iT), .sl true 1 (f2.map iT)]]), (10, [.po true [.i .i64 e.1, .i .i64 e.2]]), (43, [.sl true 1 (Q.map iT)])]) [20, 21, 42] [(29, 43)] (by simp) (by simp) ?_ ?_
  ·refine ⟨[], rfl, rfl, ?_⟩
   simp
  ·rintro j s hj ⟨Q, hQ, hQl, q1, q2, q4, q5, q7, q8, q10, q11, qH⟩
   rw [nf_of qH]
   have hw : IntKind.i64.wrap ((j : Int) + 1) = j + 1 := wrap_id (by omega) (by omega)
   cases hb9 : decide (j < L.length)
   rotate_left
   ·have hlt := of_decide_eq_true hb9
    obtain ⟨x, hx⟩ := get_some hlt
    have hx2 : (colsOf L)[j]? = some x.1 := by simp [colsOf, hx]
    simp [q1, q2, q4, q5, q7, q8, q10, q11, hb9, hx, hw]
    refine ⟨by omega, hlt, Q ++ [x.1], hQ.snoc hx2, by simp [hQl], ?_⟩
    simp
   ·have hge := of_decide_eq_false hb9
    obtain rfl : j = L.length := by omega
    have hQ2 : Q = colsOf L := hQ.trans (List.take_of_length_le (by omega))
    subst hQ2
    simp [q1, q2, q4, q5, q7, q8, q10, q11, hb9]
    refine callW_ms [.ro, .ro] ?_
    simp
    refine callX_of hT (by simp) ?_
    simp [q1, q2, q4, q5, q7, q8, q10, q11]
 ·rw [if_pos ⟨rfl, hfu⟩]
  have hT := w128 g f ts rs (colsOf L) hok (by omega) (by omega) hfu
  obtain ⟨A, B, T2, e1, e2, e3, e6, e7, e8⟩ : ∃ (A B : List TableP) (T2 : TableP), (tabW ts (colsOf L)).1 = A ++ T2 :: B ∧ (tabW ts (colsOf L)).2 = A.length ∧ T2.1 = colsOf L ∧ T2.2.2.length = L.length ∧ T2.2.1.length ≤ 2^36 ∧ (∀ v ∈ T2.2.2, v.length = T2.2.1.length) ∧ (A.length ≤ 2^30 ∧ B.length ≤ 2^30) := by
   unfold tabW
   by_cases hix : 0 ≤ tabIx ts (colsOf L)
   ·rw [if_pos hix]
    obtain ⟨j, T2, h1, h2, h3⟩ : ∃ (j : Nat) (T2 : TableP), tabIx ts (colsOf L) = j ∧ ts[j]? = some T2 ∧ T2.1 = colsOf L := tabIx_at hix
    have hm := List.mem_of_getElem? h2
    obtain ⟨s1, s2⟩ := split_at h2
    have hjl := (List.getElem?_eq_some_iff.1 h2).1
    refine ⟨ts.take j, ts.drop (j + 1), T2, s1, by rw [s2, h1]; rfl, h3, by rw [hC T2 hm, h3, hcl], hto T2 hm, hv T2 hm, by simp; omega, by simp; omega⟩
   ·rw [if_neg hix]
    refine ⟨ts, [], newT (colsOf L), rfl, rfl, rfl, by simp [newT, hcl], by simp [newT], ?_, hl, by simp⟩
    ·intro v hv; simp [newT] at hv; rw [hv.2]; rfl
  obtain ⟨T21, T22, T23⟩ := T2
  simp only at e1 e2 e3 e6 e7 e8
  subst e3
  rw [e1, e2] at hT
  have hM : spawnTs ts e L = A ++ joinT (colsOf L, T22, T23) e L :: B := by
   unfold spawnTs
   rw [e1, e2, modify_mid rfl]
  simp only [hM]
  clear hM e1 e2
  unfold c131; simp
  refine callW_ms [.ro] ?_
  simp
  refine callX_of hCp (by simp) ?_
  simp
  refine callW_ms [.own] ?_
  simp
  refine callX_of hTk (by simp) ?_
  simp
  refine twp_forR L.length (fun j s => ∃ Q : List Int, isTk (colsOf L) j Q ∧ Q.length = j ∧ s.t 1 = .sl false 5 (L.map clT) ∧ s.t 2 = .pt [(4, 0)] 0 0 ∧ s.t 4 = .pt [(6, 0)] 0 0 ∧ s.t 5 = .pt [(7, 0)] 0 0 ∧ s.t 7 = .pt [(9, 0)] 0 0 ∧ s.t 8 = .pt [(10, 0)] 0 0 ∧ s.t 10 = .rf [(43, 0)] 0 Q.length ∧ s.t 11 = .i .i64 j ∧ s.H = lk [(1, [.junk, .junk, .junk, .junk]), (4, [.po true [.sl true 1 (g.map iT), .sl true 1 (f.map iT), .sl true 3 (ts.map tbO), .sl true 4 (rs.map vT)]]), (6, [.po true [.sl true 1 [], .sl true 1 [], .sl true 3 [], .sl true 4 []]]), (7, [.po true [.i .i64 0, .i .i64 0]]), (9, [.po true [.sl true 1 (g2.map iT), .sl true 1 (f2.map iT)]]), (10, [.po true [.i .i64 e.1, .i .i64 e.2]]), (43, [.sl true 1 (Q.map iT)])]) [20, 21, 42] [(29, 43)] (by simp) (by simp) ?_ ?_
  ·refine ⟨[], rfl, rfl, ?_⟩
   simp
  ·rintro j s hj ⟨Q, hQ, hQl, q1, q2, q4, q5, q7, q8, q10, q11, qH⟩
   rw [nf_of qH]
   have hw : IntKind.i64.wrap ((j : Int) + 1) = j + 1 := wrap_id (by omega) (by omega)
   cases hb9 : decide (j < L.length)
   rotate_left
   ·have hlt := of_decide_eq_true hb9
    obtain ⟨x, hx⟩ := get_some hlt
    have hx2 : (colsOf L)[j]? = some x.1 := by simp [colsOf, hx]
    simp [q1, q2, q4, q5, q7, q8, q10, q11, hb9, hx, hw]
    refine ⟨by omega, hlt, Q ++ [x.1], hQ.snoc hx2, by simp [hQl], ?_⟩
    simp
   ·have hge := of_decide_eq_false hb9
    obtain rfl : j = L.length := by omega
    have hQ2 : Q = colsOf L := hQ.trans (List.take_of_length_le (by omega))
    subst hQ2
    simp [q1, q2, q4, q5, q7, q8, q10, q11, hb9]
    refine callW_ms [.own, .ro] ?_
    simp
    refine callX_of hT (by simp) ?_
    have hA0 : ¬ ((A.length : Int) < 0) := by omega
    simp [q1, q2, q4, q5, q7, q8, q10, q11, hA0]
    obtain ⟨e8, e9, e10⟩ := e8
    refine ⟨by omega, by omega, by omega, ?_⟩
    obtain ⟨R, hR⟩ : ∃ R, R = T22 ++ [e] := ⟨_, rfl⟩
    have eR : List.map eT T22 ++ [[TV.i .i64 e.1, TV.i .i64 e.2]] = R.map eT := by rw [hR]; simp
    rw [eR]
    have hJ : joinT (colsOf L, T22, T23) e L = (colsOf L, R, List.zipWith (fun vs x => vs ++ [x.2]) T23 L) := by rw [hR]; rfl
    rw [hJ]
    clear hT hQ hQl hJ
    refine twp_for L.length (fun j s => ∃ Z : List (List ValP), isZip T23 L j Z ∧ Z.length = j ∧ s.t 1 = .sl false 5 (L.map clT) ∧ s.t 4 = .pt [(6, 0)] 0 0 ∧ s.t 5 = .pt [(7, 0)] 0 0 ∧ s.t 8 = .pt [(10, 0)] 0 0 ∧ s.t 12 = .pt [(14, 0)] 0 0 ∧ s.t 13 = .i .i64 A.length ∧ s.t 14 = .i .i64 j ∧ s.H = lk [(1, [.junk, .junk, .junk, .junk]), (4, [.po true [.junk, .junk, .junk, .junk]]), (6, [.po true [.sl true 1 [], .sl true 1 [], .sl true 3 [], .sl true 4 []]]), (7, [.po true [.i .i64 0, .i .i64 0]]), (9, [.po true [.junk, .junk]]), (10, [.po true [.i .i64 e.1, .i .i64 e.2]]), (14, [.po true [.sl true 1 (g2.map iT), .sl true 1 (f2.map iT), .sl true 3 (A.map tbO ++ [.sl true 1 ((colsOf L).map iT), .sl true 2 (R.map eT), .sl true 1 (Z.map cvO ++ (T23.map cvO).drop j)] :: B.map tbO), .sl true 4 (rs.map vT)]])]) [43, 47, 66, 67, 97, 98] (by simp) ?_ ?_
    ·refine ⟨[], rfl, rfl, ?_⟩
     simp [q1, q2, q4, q5, q7, q8, q10, q11]
    ·rintro j s hj ⟨Z, hZ, hZl, q1, q4, q5, q8, q12, q13, q14, qH⟩
     rw [nf_of qH]
     have hw : IntKind.i64.wrap ((j : Int) + 1) = j + 1 := wrap_id (by omega) (by omega)
     cases hb9 : decide (j < L.length)
     ·have hge := of_decide_eq_false hb9
      obtain rfl : j = L.length := by omega
      have hd : (T23.map cvO).drop L.length = [] := List.drop_eq_nil_of_le (by simp; omega)
      have hZ2 : Z = List.zipWith (fun vs x => vs ++ [x.2]) T23 L := Eq.trans hZ (zipUp_all e6)
      rw [← hZ2]
      simp [q1, q4, q5, q8, q12, q13, q14, hb9, hd]
     ·have hlt := of_decide_eq_true hb9
      obtain ⟨x, hx⟩ := get_some hlt
      obtain ⟨vs, hvs⟩ : ∃ vs, T23[j]? = some vs := get_some (by omega)
      have hvl := e8 vs (List.mem_of_getElem? hvs)
      simp [q1, q4, q5, q8, q12, q13, q14, hb9, hx, hw, drop_at hvs, hZl]
      refine ⟨by omega, by omega, by omega, by omega, hlt, Z ++ [vs ++ [x.2]], ?_, by simp [hZl], ?_⟩
      ·unfold isZip at hZ ⊢
       rw [hZ, zipUp_succ hvs hx]
      ·simp
end Go.Proofs.YtehmdblkkpdmoaaT


namespace Go.Proofs.YtehmdblkkpdmoaaT
set_option linter.unusedVariables false
set_option linter.unusedSimpArgs false
open Go
def c129 : TCode := (.seq (.ops [⟨(some 2), 4, .box 3 (.t 0), none, []⟩, ⟨(some 4), 6, .mv (.c (.sl true 5 [])), none, []⟩, ⟨(some 5), 7, .mv (.c (.b false)), none, []⟩])
 (.seq (.seq (.ops [⟨(some 10), 12, .mv (.t 1), none, []⟩, ⟨(some 11), 13, .len false (.t 10), none, []⟩, ⟨(some 12), 14, .faddr 0 1 (.t 2), none, []⟩, ⟨(some 13), 15, .load false 1 (.t 12), none, []⟩, ⟨(some 14), 16, .len false (.t 13), none, []⟩, ⟨(some 15), 17, .bin .gtr (.t 11) (.t 14), none, []⟩])
 (.cond (.t 15)
 (.seq (.ops [⟨(some 4), 6, .mv (.c (.sl true 5 [])), none, []⟩, ⟨(some 5), 7, .mv (.c (.b false)), none, []⟩])
 .ret)
 .skip))
 (.seq (.ops [⟨(some 16), 18, .bslice 5 0 [(.i .i64 0), (.i .i64 0), (.i .i64 0), (.f 0), (.f 0)] [], none, []⟩, ⟨(some 6), 8, .mv (.t 16), none, []⟩])
 (.seq (.seq (.ops [⟨(some 7), 9, .mv (.c (.i .i64 0)), none, []⟩])
 (.block 0 (.loop (.seq (.seq (.ops [⟨(some 17), 19, .mv (.t 7), none, []⟩, ⟨(some 18), 20, .faddr 0 1 (.t 2), none, []⟩, ⟨(some 19), 21, .load false 1 (.t 18), none, []⟩, ⟨(some 20), 22, .len false (.t 19), none, []⟩, ⟨(some 21), 23, .bin .lss (.t 17) (.t 20), none, []⟩])
 (.cond (.t 21)
 .skip
 (.exit 0)))
 (.seq (.block 1 (.seq (.ops [⟨(some 8), 10, .mv (.c (.i .i64 0)), none, []⟩])
 (.block 2 (.loop (.seq (.seq (.ops [⟨(some 24), 26, .mv (.t 8), none, []⟩, ⟨(some 25), 27, .mv (.t 1), none, []⟩, ⟨(some 26), 28, .len false (.t 25), none, []⟩, ⟨(some 27), 29, .bin .lss (.t 24) (.t 26), none, []⟩])
 (.cond (.t 27)
 .skip
 (.exit 2)))
 (.seq (.block 3 (.seq (.ops [⟨(some 30), 32, .mv (.t 1), none, []⟩, ⟨(some 31), 33, .mv (.t 8), none, []⟩, ⟨(some 32), 34, .iaddr 5 (.t 30) (.t 31), none, []⟩, ⟨(some 33), 35, .faddr 0 1 (.t 32), none, []⟩, ⟨(some 34), 36, .load false 1 (.t 33), none, []⟩, ⟨(some 35), 37, .mv (.t 7), none, []⟩, ⟨(some 36), 38, .bin .eql (.t 34) (.t 35), none, []⟩])
 (.cond (.t 36)
 (.ops [⟨(some 37), 39, .mv (.t 6), none, []⟩, ⟨(some 38), 40, .mv (.t 1), none, []⟩, ⟨(some 39), 41, .mv (.t 8), none, []⟩, ⟨(some 40), 42, .iaddr 5 (.t 38) (.t 39), none, []⟩, ⟨(some 41), 43, .load true 5 (.t 40), none, []⟩, ⟨(some 42), 44, .bslice 5 1 [(.i .i64 0), (.i .i64 0), (.i .i64 0), (.f 0), (.f 0)] [(0, (.t 41))], none, []⟩, ⟨(some 43), 45, .app 5 40 (.t 37) (.t 42), none, []⟩, ⟨(some 6), 8, .mv (.t 43), none, []⟩])
 .skip)))
 (.ops [⟨(some 28), 30, .mv (.t 8), none, []⟩, ⟨(some 29), 31, .bin .add (.t 28) (.c (.i .i64 1)), none, []⟩, ⟨(some 8), 10, .mv (.t 29), none, []⟩])))))))
 (.ops [⟨(some 22), 24, .mv (.t 7), none, []⟩, ⟨(some 23), 25, .bin .add (.t 22) (.c (.i .i64 1)), none, []⟩, ⟨(some 7), 9, .mv (.t 23), none, []⟩]))))))
 (.seq (.seq (.ops [⟨(some 9), 11, .mv (.c (.i .i64 0)), none, []⟩])
 (.block 4 (.loop (.seq (.seq (.ops [⟨(some 44), 46, .mv (.t 9), none, []⟩, ⟨(some 45), 47, .mv (.t 6), none, []⟩, ⟨(some 46), 48, .len false (.t 45), none, []⟩, ⟨(some 47), 49, .bin .lss (.t 44) (.t 46), none, []⟩])
 (.cond (.t 47)
 .skip
 (.exit 4)))
 (.seq (.block 5 (.seq (.draw [⟨(some 50), 52, .load true 3 (.t 2), none, []⟩, ⟨(some 51), 53, .mv (.t 6), none, []⟩, ⟨(some 52), 54, .mv (.t 9), none, []⟩, ⟨(some 53), 55, .iaddr 5 (.t 51) (.t 52), none, []⟩, ⟨(some 54), 56, .faddr 0 1 (.t 53), none, []⟩, ⟨(some 55), 57, .load false 1 (.t 54), none, []⟩, ⟨(some 56), 58, .mv (.t 6), none, []⟩, ⟨(some 57), 59, .mv (.t 9), none, []⟩, ⟨(some 58), 60, .iaddr 5 (.t 56) (.t 57), none, []⟩, ⟨(some 59), 61, .faddr 1 4 (.t 58), none, []⟩, ⟨(some 60), 62, .load true 4 (.t 59), none, []⟩, ⟨(some 61), 63, .call 80 [((.t 50), 0), ((.t 55), 0), ((.t 60), 0)], none, []⟩, ⟨(some 62), 64, .un .not (.t 61), none, []⟩, ⟨(some 63), 65, .mv (.t 62), none, []⟩, ⟨(some 64), 66, .mv (.t 9), (some (63, false)), []⟩, ⟨(some 65), 67, .bin .gtr (.t 64) (.c (.i .i64 0)), (some (63, false)), []⟩, ⟨(some 66), 68, .mv (.t 65), (some (63, false)), []⟩, ⟨(some 67), 69, .mv (.t 6), (some (66, true)), []⟩, ⟨(some 68), 70, .mv (.t 9), (some (66, true)), []⟩, ⟨(some 69), 71, .bin .sub (.t 68) (.c (.i .i64 1)), (some (66, true)), []⟩, ⟨(some 70), 72, .iaddr 5 (.t 67) (.t 69), (some (66, true)), []⟩, ⟨(some 71), 73, .faddr 0 1 (.t 70), (some (66, true)), []⟩, ⟨(some 72), 74, .load false 1 (.t 71), (some (66, true)), []⟩, ⟨(some 73), 75, .mv (.t 6), (some (66, true)), []⟩, ⟨(some 74), 76, .mv (.t 9), (some (66, true)), []⟩, ⟨(some 75), 77, .iaddr 5 (.t 73) (.t 74), (some (66, true)), []⟩, ⟨(some 76), 78, .faddr 0 1 (.t 75), (some (66, true)), []⟩, ⟨(some 77), 79, .load false 1 (.t 76), (some (66, true)), []⟩, ⟨(some 78), 80, .bin .eql (.t 72) (.t 77), (some (66, true)), []⟩, ⟨(some 79), 81, .pick (.t 66) (.t 78) (.c (.b false)), (some (63, false)), []⟩, ⟨(some 80), 82, .pick (.t 63) (.c (.b true)) (.t 79), none, []⟩])
 (.cond (.t 80)
 (.seq (.ops [⟨(some 4), 6, .mv (.c (.sl true 5 [])), none, []⟩, ⟨(some 5), 7, .mv (.c (.b false)), none, []⟩])
 .ret)
 .skip)))
 (.ops [⟨(some 48), 50, .mv (.t 9), none, []⟩, ⟨(some 49), 51, .bin .add (.t 48) (.c (.i .i64 1)), none, []⟩, ⟨(some 9), 11, .mv (.t 49), none, []⟩]))))))
 (.seq (.ops [⟨(some 81), 83, .mv (.t 6), none, []⟩, ⟨(some 82), 84, .mv (.t 6), none, []⟩, ⟨(some 83), 85, .len false (.t 82), none, []⟩, ⟨(some 84), 86, .mv (.t 1), none, []⟩, ⟨(some 85), 87, .len false (.t 84), none, []⟩, ⟨(some 86), 88, .bin .eql (.t 83) (.t 85), none, []⟩, ⟨(some 4), 6, .mv (.t 81), none, []⟩, ⟨(some 5), 7, .mv (.t 86), none, []⟩])
 .ret))))))
theorem k129 : compCode Try.prog Try.f129.ntmps Try.f129.body.get! = some c129 := by kernel_rfl
theorem r129 : resTmps Try.prog Try.f129.results.toList = some [.tmp 4, .tmp 5] := by kernel_rfl
abbrev DclP := ByteArray × Int
def isC (k : Nat) (x : CellP) : Bool := decide (x.1 = (k : Int))
def inC (n : Nat) (x : CellP) : Bool := decide (0 ≤ x.1 ∧ x.1 < (n : Int))
def sortC : Nat → List CellP → List CellP
 | 0, _ => []
 | n + 1, l => sortC n l ++ l.filter (isC n)
theorem perm_or {α : Type} {p q r : α → Bool} (h : ∀ x, ¬ (p x = true ∧ q x = true)) (hr : ∀ x, r x = (p x || q x)) : ∀ l : List α, (l.filter p ++ l.filter q).Perm (l.filter r)
 | [] => by simp
 | x :: l => by
  have ih := perm_or h hr l
  have hx := h x
  have hrx := hr x
  cases hp : p x with
  | true =>
   cases hq : q x with
   | true => exact absurd ⟨hp, hq⟩ hx
   | false =>
    rw [hp, hq] at hrx
    simp only [List.filter_cons, hp, hq, hrx, Bool.or_false, if_true, List.cons_append]
    exact ih.cons x
  | false =>
   cases hq : q x with
   | true =>
    rw [hp, hq] at hrx
    simp only [List.filter_cons, hp, hq, hrx, Bool.or_true, if_true]
    exact List.perm_middle.trans (ih.cons x)
   | false =>
    rw [hp, hq] at hrx
    simp only [List.filter_cons, hp, hq, hrx, Bool.or_false]
    exact ih
theorem sortC_perm (l : List CellP) : ∀ n : Nat, (sortC n l).Perm (l.filter (inC n))
 | 0 => by
  have : l.filter (inC 0) = [] := by rw [List.filter_eq_nil_iff]; intro x _; simp [inC]
  rw [this]; exact List.Perm.refl _
 | n + 1 => by
  refine ((sortC_perm l n).append_right _).trans (perm_or (fun x h => ?_) (fun x => ?_) l)
  ·simp [inC, isC] at h; omega
  ·rw [Bool.eq_iff_iff]; simp [inC, isC]; omega
theorem sortC_len (n : Nat) (l : List CellP) : (sortC n l).length ≤ l.length := by
 rw [(sortC_perm l n).length_eq]; exact List.length_filter_le _ _
theorem sortC_mem {n : Nat} {l : List CellP} {x : CellP} (h : x ∈ sortC n l) : x ∈ l ∧ 0 ≤ x.1 ∧ x.1 < n := by
 have := (sortC_perm l n).mem_iff.1 h
 rw [List.mem_filter] at this
 exact ⟨this.1, by simpa [inC] using this.2⟩
def badAt (c : List DclP) (o : List CellP) (j : Nat) : Prop := ∃ y, o[j]? = some y ∧ (¬ fitP c y.1 y.2 ∨ (0 < j ∧ ∃ x, o[j - 1]? = some x ∧ x.1 = y.1))
noncomputable instance (c : List DclP) (o : List CellP) : Decidable (∀ j, ¬ badAt c o j) := Classical.propDecidable _
noncomputable def l4S (c : List DclP) (l : List CellP) : List CellP × Bool :=
 if c.length < l.length then ([], false) else if ∀ j, ¬ badAt c (sortC c.length l) j then (sortC c.length l, decide ((sortC c.length l).length = l.length)) else ([], false)
theorem filt_at {α : Type} {p : α → Bool} {l : List α} {x : α} {i : Nat} (h : l[i]? = some x) : (l.take (i + 1)).filter p = (l.take i).filter p ++ (if p x then [x] else []) := by
 rw [take_snoc h, List.filter_append]; congr 1
 cases hp : p x <;> simp [hp]
theorem sortC_part (j i : Nat) (l : List CellP) : (sortC j l ++ (l.take i).filter (isC j)).length ≤ l.length := by
 have h1 := sortC_len (j + 1) l
 have h2 : ((l.take i).filter (isC j)).length ≤ (l.filter (isC j)).length := ((List.take_sublist i l).filter _).length_le
 simp only [sortC, List.length_append] at h1 ⊢
 omega
theorem w129 (c r e : List DclP) (l : List CellP) (hc : c.length ≤ 2^40) (hl : l.length ≤ 2^36) (hf : ∀ x ∈ l, valOkF x.2) : Contract Try.prog false 129 [.ro, .ro] [regR c r e, .sl false 5 (l.map clT)] [.sl true 5 ((l4S c l).1.map clT), .b (l4S c l).2] [] := by
 refine mk_contract [] Try.func129 (c := Try.f129.body.get!) (by kernel_rfl) k129 r129 (of_decide_eq_true rfl) fun _ => ?_
 unfold c129; unfold regR; simp
 refine ⟨fun hlen => ?_, fun hlen => ?_⟩
 ·simp [l4S, hlen]
 refine twp_post (fun sz => sz.t 1 = .sl false 5 (l.map clT) ∧ sz.t 2 = .pt [(4, 0)] 0 0 ∧ sz.t 6 = .rf [(45, 0)] 0 (sortC c.length l).length ∧ sz.H = lk [(1, []), (4, [.po true [.sl false 2 (c.map dT), .sl false 2 (r.map dT), .sl false 2 (e.map dT)]]), (45, [.sl true 5 ((sortC c.length l).map clT)])]) ?_ ?_
 ·refine twp_forR c.length (fun j s => s.t 1 = .sl false 5 (l.map clT) ∧ s.t 2 = .pt [(4, 0)] 0 0 ∧ s.t 6 = .rf [(45, 0)] 0 (sortC j l).length ∧ s.t 7 = .i .i64 j ∧ s.H = lk [(1, []), (4, [.po true [.sl false 2 (c.map dT), .sl false 2 (r.map dT), .sl false 2 (e.map dT)]]), (45, [.sl true 5 ((sortC j l).map clT)])]) [44] [(18, 45)] (by simp) (by simp) ?_ ?_
  ·simp [sortC]
  ·rintro j s hj ⟨q1, q2, q6, q7, qH⟩
   rw [nf_of qH]
   simp [q1, q2, q6, q7]
   refine ⟨fun hlt => ?_, fun hge => ?_⟩
   ·have hw : IntKind.i64.wrap (j + 1) = j + 1 := wrap_id (by omega) (by omega)
    refine twp_for l.length (fun i s2 => s2.t 1 = .sl false 5 (l.map clT) ∧ s2.t 2 = .pt [(4, 0)] 0 0 ∧ s2.t 6 = .rf [(45, 0)] 0 (sortC j l ++ (l.take i).filter (isC j)).length ∧ s2.t 7 = .i .i64 j ∧ s2.t 8 = .i .i64 i ∧ s2.H = lk [(1, []), (4, [.po true [.sl false 2 (c.map dT), .sl false 2 (r.map dT), .sl false 2 (e.map dT)]]), (45, [.sl true 5 ((sortC j l ++ (l.take i).filter (isC j)).map clT)])]) [44] (by simp) ?_ ?_
    ·simp [q1, q2, q6, q7]
    ·rintro i s2 hi ⟨p1, p2, p6, p7, p8, pH⟩
     rw [nf_of pH]
     simp [p1, p2, p6, p7, p8]
     refine ⟨fun hlt2 => ?_, fun hge2 => ?_⟩
     ·have hwi : IntKind.i64.wrap (i + 1) = i + 1 := wrap_id (by omega) (by omega)
      obtain ⟨x, hx⟩ := get_some hlt2
      have hat := filt_at (p := isC j) hx
      have hpl := sortC_part j (i + 1) l
      simp only [List.length_append] at hpl
      simp [hx, hwi, p1, p2, p6, p7, p8]
      by_cases hxj : x.1 = j
      ·rw [if_pos (by simp [isC, hxj])] at hat
       rw [hat] at hpl
       simp at hpl
       simp [hxj, hx, hwi, p1, p2, p6, p7, p8, hat]
       exact ⟨by omega, hlt2, by omega⟩
      ·rw [if_neg (by simp [isC, hxj]), List.append_nil] at hat
       simp [hxj, hwi, p1, p2, p6, p7, p8, hat]
       exact hlt2
     ·obtain rfl : i = l.length := by omega
      simp [p1, p2, p6, p7, p8, hw]
      refine ⟨hlt, by simp [sortC], by simp [sortC]⟩
   ·obtain rfl : j = c.length := by omega
    simp [q1, q2, q6, q7]
 ·rintro sz ⟨z1, z2, z6, zH⟩
  rw [nf_of zH]
  simp [z1, z2, z6]
  have hS : l4S c l = if ∀ j, ¬ badAt c (sortC c.length l) j then (sortC c.length l, decide ((sortC c.length l).length = l.length)) else ([], false) := by
   unfold l4S; rw [if_neg (by omega)]
  have ho : ∀ x ∈ sortC c.length l, valOkF x.2 := fun x hx => hf x (sortC_mem hx).1
  have hol := sortC_len c.length l
  rw [hS]
  generalize sortC c.length l = o at *
  have hno : ∀ m, badAt c o m → (if ∀ j, ¬ badAt c o j then (o, decide (o.length = l.length)) else ([], false)) = (([], false) : List CellP × Bool) := fun m hm => if_neg fun h => h m hm
  refine twp_for o.length (fun j s => s.t 1 = .sl false 5 (l.map clT) ∧ s.t 2 = .pt [(4, 0)] 0 0 ∧ s.t 6 = .rf [(45, 0)] 0 o.length ∧ s.t 9 = .i .i64 j ∧ (∀ i, i < j → ¬ badAt c o i) ∧ s.H = lk [(1, []), (4, [.po true [.sl false 2 (c.map dT), .sl false 2 (r.map dT), .sl false 2 (e.map dT)]]), (45, [.sl true 5 (o.map clT)])]) [] (by simp) ?_ ?_
  ·simp [z1, z2, z6]
  ·rintro j s hj ⟨q1, q2, q6, q9, hg, qH⟩
   rw [nf_of qH]
   simp [q1, q2, q6, q9]
   refine ⟨fun hlt => ?_, fun hge => ?_⟩
   ·have hw : IntKind.i64.wrap (j + 1) = j + 1 := wrap_id (by omega) (by omega)
    obtain ⟨y, hy⟩ := get_some hlt
    simp [hy, hw, q1, q2, q6, q9]
    refine ⟨hlt, ?_⟩
    by_cases hfit : fitP c y.1 y.2
    ·have hstep : (∀ i, i < j → ¬ badAt c o i) → ¬ badAt c o j → ∀ i, i < j + 1 → ¬ badAt c o i := fun h1 h2 i hi => by
      rcases Nat.lt_or_ge i j with h3 | h3
      ·exact h1 i h3
      ·obtain rfl : i = j := by omega
       exact h2
     rcases Nat.eq_zero_or_pos j with h0 | h0
     ·subst h0
      refine callW_ms [.ro, .ro, .ro] ?_
      simp [regR, valV]
      refine callX_of ((w80 c r e y.1 y.2 (ho y (List.mem_of_getElem? hy)) hc).t hfit) (by simp) ?_
      simp [hw, q1, q2, q6, q9, hy]
      refine ⟨hlt, by decide, ?_⟩
      rintro ⟨y', hy', hb | ⟨hb, _⟩⟩
      ·rw [hy] at hy'; cases hy'; exact hb hfit
      ·omega
     ·obtain ⟨k, rfl⟩ : ∃ k, j = k + 1 := ⟨j - 1, by omega⟩
      have hwk : IntKind.i64.wrap (k : Int) = k := wrap_id (by omega) (by omega)
      have hpos : (0 : Int) < (k : Int) + 1 := by omega
      obtain ⟨u, hu⟩ := get_some (l := o) (j := k) (by omega)
      refine callW_ms [.ro, .ro, .ro] ?_
      simp [regR, valV]
      refine callX_of ((w80 c r e y.1 y.2 (ho y (List.mem_of_getElem? hy)) hc).t hfit) (by simp) ?_
      simp [hw, q1, q2, q6, q9, hy, hpos, hwk, hu]
      refine ⟨by omega, by omega, by omega, fun he => ?_, fun he => ⟨by omega, wrap_id (by omega) (by omega), hstep hg ?_⟩⟩
      ·rw [hno (k + 1) ⟨y, hy, .inr ⟨by omega, u, by simpa using hu, he⟩⟩]
       exact ⟨rfl, rfl⟩
      ·rintro ⟨y', hy', hb | ⟨_, x', hx', hxy⟩⟩
       ·rw [hy] at hy'; cases hy'; exact hb hfit
       ·rw [hy] at hy'; cases hy'
        simp at hx'
        rw [hu] at hx'; cases hx'; exact he hxy
    ·refine callW_ms [.ro, .ro, .ro] ?_
     simp [regR, valV]
     refine callX_of ((w80 c r e y.1 y.2 (ho y (List.mem_of_getElem? hy)) hc).f hfit) (by simp) ?_
     simp [hw, q1, q2, q6, q9]
     rw [hno j ⟨y, hy, .inl hfit⟩]
     exact ⟨rfl, rfl⟩
   ·obtain rfl : j = o.length := by omega
    have hall : ∀ j, ¬ badAt c o j := fun i => by
     by_cases hi : i < o.length
     ·exact hg i hi
     ·rintro ⟨y, hy, _⟩
      rw [List.getElem?_eq_none (by omega)] at hy; cases hy
    rw [if_pos hall]
    simp [q1, q2, q6, q9]
    omega
def vOkL (L : List CellP) : Prop := ∀ y ∈ L, valOkF y.2
theorem vOkL.nil : vOkL [] := fun y h => by cases h
theorem vOkL.snoc {L : List CellP} {x : CellP} (h : vOkL L) (hx : valOkF x.2) : vOkL (L ++ [x]) := fun y hy => by
 rcases List.mem_append.1 hy with hy | hy
 ·exact h y hy
 ·rw [List.mem_singleton.1 hy]; exact hx
theorem vOkL.set {L : List CellP} {x : CellP} {k : Nat} (h : vOkL L) (hx : valOkF x.2) : vOkL (L.set k x) := fun y hy => by
 rcases List.mem_or_eq_of_mem_set hy with hy | rfl
 ·exact h y hy
 ·exact hx
theorem l4S_len (c : List DclP) (l : List CellP) : (l4S c l).1.length ≤ l.length := by
 unfold l4S
 split
 ·simp
 ·split
  ·exact sortC_len _ _
  ·simp
theorem l4S_ok {c : List DclP} {l : List CellP} (h : vOkL l) : vOkL (l4S c l).1 := by
 unfold l4S
 split
 ·exact vOkL.nil
 ·split
  ·exact fun y hy => h y (sortC_mem hy).1
  ·exact vOkL.nil
end Go.Proofs.YtehmdblkkpdmoaaT


namespace Go.Proofs.YtehmdblkkpdmoaaT
set_option linter.unusedVariables false
set_option linter.unusedSimpArgs false
open Go
def ahS (g f : List Int) : Nat → List Int × List Int
 | 0 => (g, f)
 | j + 1 => (takeP (ahS g f j).1 (ahS g f j).2).1
structure AhI (g f : List Int) (j : Nat) : Prop where
 hg : (ahS g f j).1.length ≤ 2000
 hx : ∀ x ∈ (ahS g f j).2, 0 ≤ x ∧ x < (ahS g f j).1.length
 hr : (ahS g f j).2.length + (2000 - (ahS g f j).1.length) = f.length + (2000 - g.length) - j
theorem AhI.zero {g f : List Int} (h : EntsOkP g f) : AhI g f 0 := ⟨h.2.2, freeOk_mem h.2.1, rfl⟩
theorem AhI.succ {g f : List Int} {j : Nat} (h : AhI g f j) (hj : j < f.length + (2000 - g.length)) : AhI g f (j + 1) := by
 obtain ⟨h1, h2, h3⟩ := h
 have e : ahS g f (j + 1) = (takeP (ahS g f j).1 (ahS g f j).2).1 := rfl
 by_cases hf : (ahS g f j).2 = []
 ·rw [hf] at h3
  simp only [List.length_nil] at h3
  have hg : ¬ 2000 ≤ (ahS g f j).1.length := by omega
  have e2 : ahS g f (j + 1) = ((ahS g f j).1 ++ [0], []) := by rw [e]; simp [takeP, hf, hg]
  refine ⟨?_, ?_, ?_⟩ <;> rw [e2] <;> simp <;> omega
 ·have : 0 < (ahS g f j).2.length := List.length_pos_iff.2 hf
  have e2 : ahS g f (j + 1) = ((ahS g f j).1, (ahS g f j).2.dropLast) := by rw [e]; simp [takeP, hf]
  refine ⟨?_, ?_, ?_⟩ <;> rw [e2]
  ·exact h1
  ·exact fun x hx => h2 x (List.dropLast_subset _ hx)
  ·simp only [List.length_dropLast]; omega
end Go.Proofs.YtehmdblkkpdmoaaT

