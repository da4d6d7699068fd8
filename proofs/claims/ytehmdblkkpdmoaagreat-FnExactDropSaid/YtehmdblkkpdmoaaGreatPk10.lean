/- Texts of this session's own, one behind the other: Ka, Kf0. -/
import Derived.Test.YtehmdblkkpdmoaaGreatPk9
import Derived.Test.YtehmdblkkpdmoaaGreatProg
namespace Go.Proofs.YtehmdblkkpdmoaaGreatT
set_option linter.unusedVariables false
set_option linter.unusedSimpArgs false
open Go
def c54 : TCode := (.seq (.ops [⟨(some 6), 8, .mv (.c (.b false)), none, []⟩])
  (.seq (.ops [⟨(some 7), 9, .mv (.t 0), none, []⟩, ⟨(some 8), 10, .mv (.t 1), none, []⟩, ⟨(some 9), 11, .bin .geq (.t 7) (.t 8), none, []⟩, ⟨(some 10), 12, .mv (.t 9), none, []⟩, ⟨(some 11), 13, .mv (.t 0), (some (10, true)), []⟩, ⟨(some 12), 14, .mv (.t 2), (some (10, true)), []⟩, ⟨(some 13), 15, .bin .leq (.t 11) (.t 12), (some (10, true)), []⟩, ⟨(some 14), 16, .pick (.t 10) (.t 13) (.c (.b false)), none, []⟩, ⟨(some 6), 8, .mv (.t 14), none, []⟩])
  .ret))
theorem k54 : compCode Tryz.prog Tryz.f54.ntmps Tryz.f54.body.get! = some c54 := by kernel_rfl
theorem r54 : resTmps Tryz.prog Tryz.f54.results.toList = some [.tmp 6] := by kernel_rfl
def c52 : TCode := (.seq (.ops [⟨(some 6), 8, .mv (.c (.b false)), none, []⟩])
  (.seq (.ops [⟨(some 7), 9, .mv (.t 0), none, []⟩, ⟨(some 8), 10, .mv (.t 1), none, []⟩, ⟨(some 9), 11, .bin .geq (.t 7) (.t 8), none, []⟩, ⟨(some 10), 12, .mv (.t 9), none, []⟩, ⟨(some 11), 13, .mv (.t 0), (some (10, true)), []⟩, ⟨(some 12), 14, .mv (.t 2), (some (10, true)), []⟩, ⟨(some 13), 15, .bin .leq (.t 11) (.t 12), (some (10, true)), []⟩, ⟨(some 14), 16, .pick (.t 10) (.t 13) (.c (.b false)), none, []⟩, ⟨(some 6), 8, .mv (.t 14), none, []⟩])
  .ret))
theorem k52 : compCode Tryz.prog Tryz.f52.ntmps Tryz.f52.body.get! = some c52 := by kernel_rfl
theorem r52 : resTmps Tryz.prog Tryz.f52.results.toList = some [.tmp 6] := by kernel_rfl
def c57 : TCode := (.seq (.ops [⟨(some 4), 6, .mv (.c (.i .i64 0)), none, []⟩])
  (.seq (.ops [⟨(some 5), 7, .mv (.t 1), none, []⟩, ⟨(some 6), 8, .mv (.t 0), none, []⟩, ⟨(some 7), 9, .len false (.t 6), none, []⟩, ⟨(some 8), 10, .bin .sub (.t 5) (.t 7), none, []⟩, ⟨(some 1), 3, .mv (.t 8), none, []⟩])
  (.seq (.seq (.ops [⟨(some 9), 11, .mv (.t 1), none, []⟩, ⟨(some 10), 12, .bin .lss (.t 9) (.c (.i .i64 0)), none, []⟩])
  (.cond (.t 10)
  (.seq (.ops [⟨(some 4), 6, .mv (.c (.i .i64 (-1))), none, []⟩])
  .ret)
  .skip))
  (.seq (.ops [⟨(some 11), 13, .mv (.t 1), none, []⟩, ⟨(some 4), 6, .mv (.t 11), none, []⟩])
  .ret))))
theorem k57 : compCode Tryz.prog Tryz.f57.ntmps Tryz.f57.body.get! = some c57 := by kernel_rfl
theorem r57 : resTmps Tryz.prog Tryz.f57.results.toList = some [.tmp 4] := by kernel_rfl
def c113 : TCode := (.seq (.ops [⟨(some 2), 4, .mv (.c (.sl true 1 [])), none, []⟩])
  (.seq (.ops [⟨(some 3), 5, .mv (.t 0), none, []⟩, ⟨(some 4), 6, .app 1 8 (.c (.sl true 1 [])) (.t 3), none, []⟩, ⟨(some 2), 4, .mv (.t 4), none, []⟩])
  .ret))
theorem k113 : compCode Tryz.prog Tryz.f113.ntmps Tryz.f113.body.get! = some c113 := by kernel_rfl
theorem r113 : resTmps Tryz.prog Tryz.f113.results.toList = some [.tmp 2] := by kernel_rfl
def c72 : TCode := (.seq (.ops [⟨(some 2), 4, .mv (.c (.sl true 1 [])), none, []⟩])
  (.seq (.ops [⟨(some 5), 7, .mv (.t 0), none, []⟩, ⟨(some 6), 8, .len false (.t 5), none, []⟩, ⟨(some 7), 9, .mkslice 1 8 [(.i .i64 0)] (.t 6) (.t 6), none, []⟩, ⟨(some 3), 5, .mv (.t 7), none, []⟩])
  (.seq (.seq (.ops [⟨(some 4), 6, .mv (.c (.i .i64 0)), none, []⟩])
  (.block 0 (.loop (.seq (.seq (.ops [⟨(some 8), 10, .mv (.t 4), none, []⟩, ⟨(some 9), 11, .mv (.t 0), none, []⟩, ⟨(some 10), 12, .len false (.t 9), none, []⟩, ⟨(some 11), 13, .bin .lss (.t 8) (.t 10), none, []⟩])
  (.cond (.t 11)
  .skip
  (.exit 0)))
  (.seq (.block 1 (.ops [⟨(some 14), 16, .mv (.t 3), none, []⟩, ⟨(some 15), 17, .mv (.t 4), none, []⟩, ⟨(some 16), 18, .mv (.t 0), none, []⟩, ⟨(some 17), 19, .mv (.t 4), none, []⟩, ⟨(some 18), 20, .iaddr 1 (.t 16) (.t 17), none, []⟩, ⟨(some 19), 21, .load false 1 (.t 18), none, []⟩, ⟨(some 20), 22, .iaddr 1 (.t 14) (.t 15), none, []⟩, ⟨none, 1005007, .store 1 (.t 20) (.t 19), none, []⟩]))
  (.ops [⟨(some 12), 14, .mv (.t 4), none, []⟩, ⟨(some 13), 15, .bin .add (.t 12) (.c (.i .i64 1)), none, []⟩, ⟨(some 4), 6, .mv (.t 13), none, []⟩]))))))
  (.seq (.ops [⟨(some 21), 23, .mv (.t 3), none, []⟩, ⟨(some 2), 4, .mv (.t 21), none, []⟩])
  .ret))))
theorem k72 : compCode Tryz.prog Tryz.f72.ntmps Tryz.f72.body.get! = some c72 := by kernel_rfl
theorem r72 : resTmps Tryz.prog Tryz.f72.results.toList = some [.tmp 2] := by kernel_rfl
def c87 : TCode := (.seq (.ops [⟨(some 4), 6, .mv (.c (.b false)), none, []⟩])
  (.seq (.seq (.ops [⟨(some 6), 8, .mv (.t 0), none, []⟩, ⟨(some 7), 9, .len false (.t 6), none, []⟩, ⟨(some 8), 10, .mv (.t 1), none, []⟩, ⟨(some 9), 11, .len false (.t 8), none, []⟩, ⟨(some 10), 12, .bin .neq (.t 7) (.t 9), none, []⟩])
  (.cond (.t 10)
  (.seq (.ops [⟨(some 4), 6, .mv (.c (.b false)), none, []⟩])
  .ret)
  .skip))
  (.seq (.seq (.ops [⟨(some 5), 7, .mv (.c (.i .i64 0)), none, []⟩])
  (.block 0 (.loop (.seq (.seq (.ops [⟨(some 11), 13, .mv (.t 5), none, []⟩, ⟨(some 12), 14, .mv (.t 0), none, []⟩, ⟨(some 13), 15, .len false (.t 12), none, []⟩, ⟨(some 14), 16, .bin .lss (.t 11) (.t 13), none, []⟩])
  (.cond (.t 14)
  .skip
  (.exit 0)))
  (.seq (.block 1 (.seq (.draw [⟨(some 17), 19, .mv (.t 0), none, []⟩, ⟨(some 18), 20, .mv (.t 5), none, []⟩, ⟨(some 19), 21, .iaddr 1 (.t 17) (.t 18), none, []⟩, ⟨(some 20), 22, .load false 1 (.t 19), none, []⟩, ⟨(some 21), 23, .mv (.t 1), none, []⟩, ⟨(some 22), 24, .mv (.t 5), none, []⟩, ⟨(some 23), 25, .iaddr 1 (.t 21) (.t 22), none, []⟩, ⟨(some 24), 26, .load false 1 (.t 23), none, []⟩, ⟨(some 25), 27, .bin .neq (.t 20) (.t 24), none, []⟩])
  (.cond (.t 25)
  (.seq (.ops [⟨(some 4), 6, .mv (.c (.b false)), none, []⟩])
  .ret)
  .skip)))
  (.ops [⟨(some 15), 17, .mv (.t 5), none, []⟩, ⟨(some 16), 18, .bin .add (.t 15) (.c (.i .i64 1)), none, []⟩, ⟨(some 5), 7, .mv (.t 16), none, []⟩]))))))
  (.seq (.ops [⟨(some 4), 6, .mv (.c (.b true)), none, []⟩])
  .ret))))
theorem k87 : compCode Tryz.prog Tryz.f87.ntmps Tryz.f87.body.get! = some c87 := by kernel_rfl
theorem r87 : resTmps Tryz.prog Tryz.f87.results.toList = some [.tmp 4] := by kernel_rfl
def c92 : TCode := (.seq (.ops [⟨(some 4), 6, .mv (.c (.i .i64 0)), none, []⟩])
  (.seq (.seq (.ops [⟨(some 5), 7, .mv (.c (.i .i64 0)), none, []⟩])
  (.block 0 (.loop (.seq (.seq (.ops [⟨(some 6), 8, .mv (.t 5), none, []⟩, ⟨(some 7), 9, .mv (.t 0), none, []⟩, ⟨(some 8), 10, .len false (.t 7), none, []⟩, ⟨(some 9), 11, .bin .lss (.t 6) (.t 8), none, []⟩])
  (.cond (.t 9)
  .skip
  (.exit 0)))
  (.seq (.block 1 (.seq (.ops [⟨(some 12), 14, .mv (.t 0), none, []⟩, ⟨(some 13), 15, .mv (.t 5), none, []⟩, ⟨(some 14), 16, .mv (.t 1), none, []⟩, ⟨(some 15), 17, .iaddr 1 (.t 12) (.t 13), none, []⟩, ⟨none, 1004004, .store 1 (.t 15) (.t 14), none, []⟩])
  (.ops [⟨(some 16), 18, .mv (.t 1), none, []⟩, ⟨(some 17), 19, .bin .add (.t 16) (.c (.i .i64 1)), none, []⟩, ⟨(some 1), 3, .mv (.t 17), none, []⟩])))
  (.ops [⟨(some 10), 12, .mv (.t 5), none, []⟩, ⟨(some 11), 13, .bin .add (.t 10) (.c (.i .i64 1)), none, []⟩, ⟨(some 5), 7, .mv (.t 11), none, []⟩]))))))
  (.seq (.ops [⟨(some 18), 20, .mv (.t 1), none, []⟩, ⟨(some 4), 6, .mv (.t 18), none, []⟩])
  .ret)))
theorem k92 : compCode Tryz.prog Tryz.f92.ntmps Tryz.f92.body.get! = some c92 := by kernel_rfl
theorem r92 : resTmps Tryz.prog Tryz.f92.results.toList = some [.tmp 4] := by kernel_rfl
def c95 : TCode := (.seq (.ops [⟨(some 4), 6, .mv (.c (.i .i64 0)), none, []⟩])
  (.seq (.seq (.ops [⟨(some 5), 7, .mv (.c (.i .i64 0)), none, []⟩])
  (.block 0 (.loop (.seq (.seq (.ops [⟨(some 6), 8, .mv (.t 5), none, []⟩, ⟨(some 7), 9, .mv (.t 0), none, []⟩, ⟨(some 8), 10, .len false (.t 7), none, []⟩, ⟨(some 9), 11, .bin .lss (.t 6) (.t 8), none, []⟩])
  (.cond (.t 9)
  .skip
  (.exit 0)))
  (.seq (.block 1 (.seq (.seq (.ops [⟨(some 12), 14, .mv (.t 0), none, []⟩, ⟨(some 13), 15, .mv (.t 5), none, []⟩, ⟨(some 14), 16, .iaddr 1 (.t 12) (.t 13), none, []⟩, ⟨(some 15), 17, .load false 1 (.t 14), none, []⟩, ⟨(some 16), 18, .mv (.t 1), none, []⟩, ⟨(some 17), 19, .bin .neq (.t 15) (.t 16), none, []⟩])
  (.cond (.t 17)
  (.seq (.ops [⟨(some 4), 6, .mv (.c (.i .i64 (-1))), none, []⟩])
  .ret)
  .skip))
  (.ops [⟨(some 18), 20, .mv (.t 1), none, []⟩, ⟨(some 19), 21, .bin .add (.t 18) (.c (.i .i64 1)), none, []⟩, ⟨(some 1), 3, .mv (.t 19), none, []⟩])))
  (.ops [⟨(some 10), 12, .mv (.t 5), none, []⟩, ⟨(some 11), 13, .bin .add (.t 10) (.c (.i .i64 1)), none, []⟩, ⟨(some 5), 7, .mv (.t 11), none, []⟩]))))))
  (.seq (.ops [⟨(some 20), 22, .mv (.t 1), none, []⟩, ⟨(some 4), 6, .mv (.t 20), none, []⟩])
  .ret)))
theorem k95 : compCode Tryz.prog Tryz.f95.ntmps Tryz.f95.body.get! = some c95 := by kernel_rfl
theorem r95 : resTmps Tryz.prog Tryz.f95.results.toList = some [.tmp 4] := by kernel_rfl
def c116 : TCode := (.seq (.ops [⟨(some 2), 4, .mv (.c (.b false)), none, []⟩])
  (.seq (.ops [⟨(some 3), 5, .mv (.t 0), none, []⟩, ⟨(some 4), 6, .call 54 [((.t 3), 0), ((.c (.i .i64 1)), 0), ((.c (.i .i64 4)), 0)], none, []⟩, ⟨(some 2), 4, .mv (.t 4), none, []⟩])
  .ret))
theorem k116 : compCode Tryz.prog Tryz.f116.ntmps Tryz.f116.body.get! = some c116 := by kernel_rfl
theorem r116 : resTmps Tryz.prog Tryz.f116.results.toList = some [.tmp 2] := by kernel_rfl
theorem w54 (x lo hi : Int) : Contract Tryz.prog false 54 [.ro, .ro, .ro] [.i .i64 x, .i .i64 lo, .i .i64 hi] [.b (decide (lo ≤ x ∧ x ≤ hi))] [] := by
  refine mk_contract [] Tryz.func54 (c := Tryz.f54.body.get!) (by kernel_rfl) k54 r54 (of_decide_eq_true rfl) fun _ => ?_
  unfold c54; simp
  by_cases h : lo ≤ x <;> simp [h]
theorem w116 (k : Int) : Contract Tryz.prog false 116 [.ro] [.i .i64 k] [.b (decide (1 ≤ k ∧ k ≤ 4))] [] := by
  refine mk_contract [] Tryz.func116 (c := Tryz.f116.body.get!) (by kernel_rfl) k116 r116 (of_decide_eq_true rfl) fun _ => ?_
  unfold c116; simp
  refine callW_ms [.ro, .ro, .ro] ?_
  simp
  refine callX_of (w54 k 1 4) (by simp) ?_
  simp
theorem w52 (x lo hi : Int) : Contract Tryz.prog false 52 [.ro, .ro, .ro] [.i .i64 x, .i .i64 lo, .i .i64 hi] [.b (decide (lo ≤ x ∧ x ≤ hi))] [] := by
  refine mk_contract [] Tryz.func52 (c := Tryz.f52.body.get!) (by kernel_rfl) k52 r52 (of_decide_eq_true rfl) fun _ => ?_
  unfold c52; simp
  by_cases h : lo ≤ x <;> simp [h]
def szF (n k : Int) : Int := if n - k < 0 then -1 else n - k
theorem w57 (l : List Int) (n : Int) (hl : l.length < 2^63) (hn : n < 2^62) (hn0 : 0 ≤ n) : Contract Tryz.prog false 57 [.ro, .ro] [.sl false 1 (l.map iT), .i .i64 n] [.i .i64 (szF n l.length)] [] := by
  refine mk_contract [] Tryz.func57 (c := Tryz.f57.body.get!) (by kernel_rfl) k57 r57 (of_decide_eq_true rfl) fun _ => ?_
  have hw : IntKind.i64.wrap (n - l.length) = n - l.length := wrap_id (by omega) (by omega)
  unfold c57 szF; simp [hw]
  omega
theorem w113 (l : List Int) (hl : l.length ≤ 2^40) : Contract Tryz.prog false 113 [.ro] [.sl false 1 (l.map iT)] [.sl true 1 (l.map iT)] [] := by
  refine mk_contract [] Tryz.func113 (c := Tryz.f113.body.get!) (by kernel_rfl) k113 r113 (of_decide_eq_true rfl) fun _ => ?_
  unfold c113; simp
  omega
theorem w72 (l : List Int) (hl : l.length ≤ 2^40) : Contract Tryz.prog false 72 [.ro] [.sl false 1 (l.map iT)] [.sl true 1 (l.map iT)] [] := by
  refine mk_contract [] Tryz.func72 (c := Tryz.f72.body.get!) (by kernel_rfl) k72 r72 (of_decide_eq_true rfl) fun _ => ?_
  unfold c72; simp
  refine ⟨by omega, ?_⟩
  refine twp_for l.length (fun j s => s.t 0 = .sl false 1 (l.map iT) ∧ s.t 3 = .rf [(9, 0)] 0 l.length ∧ s.t 4 = .i .i64 j ∧
    s.H = lk [(1, []), (9, [.sl true 1 (List.take j (l.map iT) ++ List.replicate (l.length - j) [.i .i64 0])])]) [] (by simp) ?_ ?_
  · simp
  · rintro j s hj ⟨q0, q3, q4, qH⟩
    rw [nf_of qH]
    simp [q0, q3, q4]
    refine ⟨fun hlt => ?_, fun hge => ?_⟩
    · have hw : IntKind.i64.wrap (j + 1) = j + 1 := wrap_id (by omega) (by omega)
      obtain ⟨x, hx⟩ := get_some hlt
      have hm := fill_modify (L := l.map iT) (z := [.i .i64 0]) (φ := fun e => e.modify 0 fun _ => .i .i64 x) (j := j) (N := l.length) (by simp) (by simp [hx, iT])
      have hg := fill_get (L := l.map iT) (z := [.i .i64 0]) (j := j) (N := l.length) (by simp) hlt
      simp [hx, hw, q0, q3, q4, iT, hg, hm]
      omega
    · obtain rfl : j = l.length := by omega
      simp [q0, q3, q4]
theorem w87 (a b : List Int) (ha : a.length ≤ 2^40) (hb : b.length ≤ 2^40) : Contract Tryz.prog false 87 [.ro, .ro] [.sl false 1 (a.map iT), .sl false 1 (b.map iT)] [.b (decide (a = b))] [] := by
  refine mk_contract [] Tryz.func87 (c := Tryz.f87.body.get!) (by kernel_rfl) k87 r87 (of_decide_eq_true rfl) fun _ => ?_
  unfold c87; simp
  refine ⟨fun h => ?_, fun h => ?_⟩
  · refine twp_for a.length (fun j s => s.t 0 = .sl false 1 (a.map iT) ∧ s.t 1 = .sl false 1 (b.map iT) ∧ s.t 5 = .i .i64 j ∧ a.take j = b.take j ∧
      s.H = lk [(1, [])]) [] (by simp) ?_ ?_
    · simp
    · rintro j s hj ⟨q0, q1, q5, hab, qH⟩
      rw [nf_of qH]
      simp [q0, q1, q5]
      refine ⟨fun hlt => ?_, fun hge => ?_⟩
      · have hw : IntKind.i64.wrap (j + 1) = j + 1 := wrap_id (by omega) (by omega)
        obtain ⟨x, hx⟩ := get_some hlt
        obtain ⟨y, hy⟩ := get_some (l := b) (j := j) (by omega)
        simp [hx, hy, hw, q0, q1, q5, iT]
        refine ⟨fun hxy => ⟨hlt, ?_⟩, fun hxy hab => hxy (by subst hab; simpa [hx] using hy)⟩
        rw [List.take_add_one, List.take_add_one, hab, hx, hy, hxy]
      · obtain rfl : j = a.length := by omega
        rw [List.take_of_length_le (Nat.le_refl _), List.take_of_length_le (by omega)] at hab
        exact hab
  · rintro rfl; exact h rfl
theorem w92 (l : List Int) (k : Int) (hl : l.length ≤ 2^40) (hk : 0 ≤ k) (hk2 : k ≤ 2^40) : Contract Tryz.prog false 92 [.own, .ro] [.sl true 1 (l.map iT), .i .i64 k] [.i .i64 (k + l.length)] [some (.sl true 1 ((cnt k l.length).map iT))] := by
  refine mk_contract [some [(1, 0)]] Tryz.func92 (c := Tryz.f92.body.get!) (by kernel_rfl) k92 r92 (of_decide_eq_true rfl) fun _ => ?_
  unfold c92; simp
  refine twp_for l.length (fun j s => s.t 0 = .rf [(1, 0)] 0 l.length ∧ s.t 1 = .i .i64 (k + j) ∧ s.t 5 = .i .i64 j ∧
    s.H = lk [(1, [.sl true 1 ((cnt k j).map iT ++ (l.map iT).drop j)])]) [] (by simp) ?_ ?_
  · simp
  · rintro j s hj ⟨q0, q1, q5, qH⟩
    rw [nf_of qH]
    simp [q0, q1, q5]
    refine ⟨fun hlt => ?_, fun hge => ?_⟩
    · have hw : IntKind.i64.wrap (j + 1) = j + 1 := wrap_id (by omega) (by omega)
      have hw2 : IntKind.i64.wrap (k + j + 1) = k + j + 1 := wrap_id (by omega) (by omega)
      obtain ⟨x, hx⟩ := get_some hlt
      have hg := upd_get (A := (cnt k j).map iT) (L := l.map iT) (j := j) (x := iT x) (by simp) (by simp [hx])
      have hm := upd_modify (A := (cnt k j).map iT) (L := l.map iT) (j := j) (x := iT x) (φ := fun e => e.modify 0 fun _ => .i .i64 (k + j)) (by simp) (by simp [hx])
      simp [hw, hw2, q0, q1, q5, hg, hm, cnt, iT]
      omega
    · obtain rfl : j = l.length := by omega
      simp [q0, q1, q5]
theorem w95 (l : List Int) (k : Int) (hl : l.length ≤ 2^40) (hk : 0 ≤ k) (hk2 : k ≤ 2^40) : Contract Tryz.prog false 95 [.ro, .ro] [.sl false 1 (l.map iT), .i .i64 k] [.i .i64 (if l = cnt k l.length then k + l.length else -1)] [] := by
  refine mk_contract [] Tryz.func95 (c := Tryz.f95.body.get!) (by kernel_rfl) k95 r95 (of_decide_eq_true rfl) fun _ => ?_
  unfold c95; simp
  refine twp_for l.length (fun j s => s.t 0 = .sl false 1 (l.map iT) ∧ s.t 1 = .i .i64 (k + j) ∧ s.t 5 = .i .i64 j ∧ l.take j = cnt k j ∧
    s.H = lk [(1, [])]) [] (by simp) ?_ ?_
  · simp
  · rintro j s hj ⟨q0, q1, q5, hc, qH⟩
    rw [nf_of qH]
    simp [q0, q1, q5]
    refine ⟨fun hlt => ?_, fun hge => ?_⟩
    · have hw : IntKind.i64.wrap (j + 1) = j + 1 := wrap_id (by omega) (by omega)
      have hw2 : IntKind.i64.wrap (k + j + 1) = k + j + 1 := wrap_id (by omega) (by omega)
      obtain ⟨x, hx⟩ := get_some hlt
      simp [hx, hw, hw2, q0, q1, q5, iT]
      refine ⟨fun hxe => ⟨hlt, by omega, ?_⟩, fun hne hc2 => ?_⟩
      · rw [take_snoc hx, hc, hxe]; rfl
      · have h2 := cnt_get k hlt
        rw [← hc2, hx] at h2
        cases h2; exact absurd rfl hne
    · obtain rfl : j = l.length := by omega
      simp [q0, q1, q5]
      intro h; rw [List.take_of_length_le (Nat.le_refl _)] at hc; exact absurd hc h
theorem szF_lo (n k : Int) : -1 ≤ szF n k := by unfold szF; split <;> omega
theorem szF_le (n k : Int) (hk : 0 ≤ k) (hn : 0 ≤ n) : szF n k ≤ n := by unfold szF; split <;> omega
theorem szF_neg (n k : Int) (h : szF n k < 0) : szF n k = -1 := by have := szF_lo n k; omega
def szA {α : Type} (f : α → Int → Int) (l : List α) (n : Int) : Int := l.foldl (fun m x => if m < 0 then -1 else f x m) n
theorem szA_snoc {α : Type} (f : α → Int → Int) (l : List α) (x : α) (n : Int) : szA f (l ++ [x]) n = if szA f l n < 0 then -1 else f x (szA f l n) := by
  rw [szA, List.foldl_append]; rfl
@[simp] theorem szA_nil {α : Type} (f : α → Int → Int) (n : Int) : szA f [] n = n := rfl
theorem szA_neg {α : Type} (f : α → Int → Int) : ∀ (l : List α) (n : Int), n = -1 → szA f l n = -1
  | [], n, h => h
  | x :: l, n, h => by
    show szA f l (if n < 0 then -1 else f x n) = -1
    exact szA_neg f l _ (by simp [h])
theorem szA_app {α : Type} (f : α → Int → Int) (l r : List α) (n : Int) : szA f (l ++ r) n = szA f r (szA f l n) := by simp [szA, List.foldl_append]
theorem szA_take {α : Type} (f : α → Int → Int) (l : List α) (n : Int) (j : Nat) (h : szA f (l.take j) n = -1) : szA f l n = -1 := by
  rw [← List.take_append_drop j l, szA_app]; exact szA_neg f _ _ h
theorem szA_ok {α : Type} {f : α → Int → Int} (hf : ∀ x m, 0 ≤ m → f x m ≤ m) : ∀ (l : List α) (n : Int), 0 ≤ szA f l n → 0 ≤ n → szA f l n ≤ n ∧ ∀ x ∈ l, ∃ m, 0 ≤ m ∧ m ≤ n ∧ 0 ≤ f x m
  | [], n, h, h0 => ⟨Int.le_refl _, by simp⟩
  | x :: l, n, h, h0 => by
    have e : szA f (x :: l) n = szA f l (f x n) := by show szA f l (if n < 0 then -1 else f x n) = _; rw [if_neg (by omega)]
    rw [e] at h ⊢
    have hx : 0 ≤ f x n := by
      rcases Int.lt_or_le (f x n) 0 with h' | h'
      · exfalso
        cases l with
        | nil => simp at h; omega
        | cons y l =>
          have : szA f (y :: l) (f x n) = szA f l (-1) := by show szA f l (if f x n < 0 then -1 else f y (f x n)) = _; rw [if_pos h']
          rw [this, szA_neg f l _ rfl] at h; omega
      · exact h'
    have hle := hf x n h0
    obtain ⟨h1, h2⟩ := szA_ok hf l _ h hx
    refine ⟨by omega, fun y hy => ?_⟩
    rcases List.mem_cons.1 hy with rfl | hy
    · exact ⟨n, h0, Int.le_refl _, hx⟩
    · obtain ⟨m, m1, m2, m3⟩ := h2 y hy; exact ⟨m, m1, by omega, m3⟩
def szS {α : Type} (f : α → Int → Int) (l : List α) (n : Int) : Int := if szF n l.length < 0 then -1 else szA f l (szF n l.length)
theorem szF_pos {n k : Int} (h : 0 ≤ szF n k) : szF n k = n - k ∧ k ≤ n := by unfold szF at h ⊢; split at h <;> split <;> omega
theorem szS_lo {α : Type} {f : α → Int → Int} {l : List α} {n : Int} (hf : ∀ x m, 0 ≤ m → f x m ≤ m) (h0 : 0 ≤ n) (h : ¬ szS f l n < 0) : 0 ≤ szS f l n ∧ szS f l n ≤ n ∧ (l.length : Int) ≤ n ∧ ∀ x ∈ l, ∃ m, 0 ≤ m ∧ m ≤ n ∧ 0 ≤ f x m := by
  unfold szS at h ⊢
  split at h
  · omega
  · rename_i h1
    rw [if_neg h1]
    obtain ⟨h2, h3⟩ := szF_pos (by omega : 0 ≤ szF n l.length)
    obtain ⟨h4, h5⟩ := szA_ok hf l _ (by omega) (by omega : 0 ≤ szF n l.length)
    refine ⟨by omega, by omega, by omega, fun x hx => ?_⟩
    obtain ⟨m, m1, m2, m3⟩ := h5 x hx
    exact ⟨m, m1, by omega, m3⟩
theorem szA_neg' {α : Type} {f : α → Int → Int} (hn : ∀ x m, f x m < 0 → f x m = -1) : ∀ (l : List α) (n : Int), 0 ≤ n → szA f l n < 0 → szA f l n = -1
  | [], n, h0, h => by simp at h; omega
  | x :: l, n, h0, h => by
    have e : szA f (x :: l) n = szA f l (f x n) := by show szA f l (if n < 0 then -1 else f x n) = _; rw [if_neg (by omega)]
    rw [e] at h ⊢
    rcases Int.lt_or_le (f x n) 0 with h' | h'
    · exact szA_neg f l _ (hn x n h')
    · exact szA_neg' hn l _ h' h
theorem szS_neg {α : Type} {f : α → Int → Int} (hn : ∀ x m, f x m < 0 → f x m = -1) (l : List α) (n : Int) (h : szS f l n < 0) : szS f l n = -1 := by
  unfold szS at h ⊢
  split
  · rfl
  · rename_i h1
    rw [if_neg h1] at h
    exact szA_neg' hn l _ (by omega) h
end Go.Proofs.YtehmdblkkpdmoaaGreatT


namespace Go.Proofs.YtehmdblkkpdmoaaGreatT
set_option linter.unusedVariables false
set_option linter.unusedSimpArgs false
open Go
def rg (x : Nat) : Nat := x % 9223372036854775808
def sg (x : Nat) : Bool := x / 9223372036854775808 % 2 == 1
theorem rs_inj {x y : Nat} (hx : x < 18446744073709551616) (hy : y < 18446744073709551616) (h1 : rg x = rg y) (h2 : sg x = sg y) : x = y := by
  unfold rg at h1; unfold sg at h2
  have : x / 9223372036854775808 % 2 = y / 9223372036854775808 % 2 := by
    rcases Nat.mod_two_eq_zero_or_one (x / 9223372036854775808) with h | h <;> rcases Nat.mod_two_eq_zero_or_one (y / 9223372036854775808) with h' | h' <;> simp [h, h'] at h2 ⊢
  omega
theorem read_cases (x : Nat) : isN x ∨ Ieee.double.read x = .infinity (sg x) ∧ rg x = 9218868437227405312 ∨
    ∃ m e : Nat, Ieee.double.read x = .number (sg x) m (-1074 + e) ∧ rg x = m + e * 4503599627370496 ∧ (m < 4503599627370496 ∧ e = 0 ∨ 4503599627370496 ≤ m ∧ m < 9007199254740992) ∧ rg x < 9218868437227405312 := by
  have e1 : Ieee.double.signWeight = 9223372036854775808 := rfl
  have e2 : Ieee.double.binade = 4503599627370496 := rfl
  have e3 : Ieee.double.infRung = 9218868437227405312 := rfl
  have e4 : Ieee.double.leastPlace = -1074 := rfl
  unfold isN
  simp only [Ieee.Format.read, e1, e2, e3, e4]
  rw [show (x / 9223372036854775808 % 2 == 1) = sg x from rfl, show x % 9223372036854775808 = rg x from rfl]
  generalize rg x = r
  by_cases h1 : r < 4503599627370496
  · right; right
    exact ⟨r, 0, by simp [h1], by omega, by omega, by omega⟩
  · by_cases h2 : r < 9218868437227405312
    · right; right
      refine ⟨4503599627370496 + r % 4503599627370496, r / 4503599627370496 - 1, by simp [h1, h2], by omega, by omega, h2⟩
    · by_cases h3 : r = 9218868437227405312
      · right; left; simp [h3]
      · left; simp [h1, h2, h3]
theorem signed_zero (s t : Bool) (a b k l : Nat) (h : Ieee.signed s a k = Ieee.signed t b l) : a * 2 ^ k = b * 2 ^ l ∧ (s = t ∨ a * 2 ^ k = 0) := by
  unfold Ieee.signed at h
  simp only [Nat.shiftLeft_eq] at h
  generalize a * 2 ^ k = u at *
  generalize b * 2 ^ l = v at *
  cases s <;> cases t <;> simp at h ⊢ <;> omega
theorem order_eq {x y : Nat} (h : FloatKind.f64.format.order x y = some .eq) : ¬ isN x ∧ ¬ isN y ∧ rg x = rg y ∧ (sg x = sg y ∨ rg x = 0) := by
  have h' : (Ieee.double.read x).order (Ieee.double.read y) = some .eq := h
  have nx : ¬ isN x := by rintro ⟨s, t, e⟩; rw [e] at h'; simp [Ieee.Datum.order] at h'
  have ny : ¬ isN y := by rintro ⟨s, t, e⟩; rw [e] at h'; cases hr : Ieee.double.read x <;> rw [hr] at h' <;> simp [Ieee.Datum.order] at h'
  refine ⟨nx, ny, ?_⟩
  rcases read_cases x with hx | ⟨hx, rx⟩ | ⟨m, e, hx, rx, cx, lx⟩
  · exact absurd hx nx
  · rcases read_cases y with hy | ⟨hy, ry⟩ | ⟨n, d, hy, ry, cy, ly⟩
    · exact absurd hy ny
    · rw [hx, hy] at h'
      refine ⟨by omega, .inl ?_⟩
      cases hs : sg x <;> cases ht : sg y <;> rw [hs, ht] at h' <;> first | rfl | (revert h'; decide)
    · rw [hx, hy] at h'; cases hs : sg x <;> rw [hs] at h' <;> simp [Ieee.Datum.order] at h'
  · rcases read_cases y with hy | ⟨hy, ry⟩ | ⟨n, d, hy, ry, cy, ly⟩
    · exact absurd hy ny
    · rw [hx, hy] at h'; cases hs : sg y <;> rw [hs] at h' <;> simp [Ieee.Datum.order] at h'
    · rw [hx, hy] at h'
      simp only [Ieee.Datum.order, Option.some.injEq] at h'
      have hc : Ieee.signed (sg x) m ((-1074 + (e : Int)) - min (-1074 + (e : Int)) (-1074 + (d : Int))).toNat = Ieee.signed (sg y) n ((-1074 + (d : Int)) - min (-1074 + (e : Int)) (-1074 + (d : Int))).toNat := by
        rw [Int.compare_eq_eq] at h'; exact h'
      obtain ⟨k1, k2⟩ := signed_zero _ _ _ _ _ _ hc
      have hp : ∀ k : Nat, 1 ≤ k → 2 ≤ 2 ^ k := fun k hk => by
        have := Nat.pow_le_pow_right (n := 2) (by omega) hk; simpa using this
      rcases Nat.lt_trichotomy e d with hed | hed | hed
      · exfalso
        rw [show ((-1074 + (e : Int)) - min (-1074 + (e : Int)) (-1074 + (d : Int))).toNat = 0 by omega] at k1
        have h2 := hp ((-1074 + (d : Int)) - min (-1074 + (e : Int)) (-1074 + (d : Int))).toNat (by omega)
        have := Nat.mul_le_mul_left n h2
        omega
      · subst hed
        rw [show ((-1074 + (e : Int)) - min (-1074 + (e : Int)) (-1074 + (e : Int))).toNat = 0 by omega] at k1 k2
        refine ⟨by omega, ?_⟩
        rcases k2 with k2 | k2
        · exact .inl k2
        · right; omega
      · exfalso
        rw [show ((-1074 + (d : Int)) - min (-1074 + (e : Int)) (-1074 + (d : Int))).toNat = 0 by omega] at k1
        have h2 := hp ((-1074 + (e : Int)) - min (-1074 + (e : Int)) (-1074 + (d : Int))).toNat (by omega)
        have := Nat.mul_le_mul_left m h2
        omega
def fOk (x : Nat) : Prop := ∃ y, y < 18446744073709551616 ∧ x = canon y
theorem fOk_lt {x : Nat} (h : fOk x) : x < 18446744073709551616 := by
  obtain ⟨y, hy, rfl⟩ := h
  unfold canon; split <;> omega
theorem feq_self {x : Nat} (hn : ¬ isN x) : FloatKind.f64.format.order x x = some .eq := by
  rcases h : FloatKind.f64.format.order x x with _ | o
  · exact absurd ((order_none x).1 h) hn
  · revert h
    simp only [FloatKind.format, Ieee.Format.order]
    cases Ieee.double.read x <;> simp [Ieee.Datum.order] <;> exact fun h => h.symm
noncomputable instance (x : Nat) : Decidable (isN x) := Classical.propDecidable _
theorem fne_self (x : Nat) : (FloatKind.f64.format.order x x != some .eq) = decide (isN x) := by
  by_cases h : isN x
  · simp [h, (order_none x).2 h]
  · simp [h, feq_self h]
theorem feq_iff {x y : Nat} (hx : fOk x) (hy : fOk y) : FloatKind.f64.format.order x y = some .eq ↔ (¬ isN x ∧ x = y) ∨ rg x = 0 ∧ rg y = 0 := by
  constructor
  · intro h
    obtain ⟨h1, h2, h3, h4⟩ := order_eq h
    rcases h4 with h4 | h4
    · exact .inl ⟨h1, rs_inj (fOk_lt hx) (fOk_lt hy) h3 h4⟩
    · exact .inr ⟨h4, by omega⟩
  · rintro (⟨h1, rfl⟩ | ⟨h1, h2⟩)
    · exact feq_self h1
    · have hl := fOk_lt hx
      have hl2 := fOk_lt hy
      have z : ∀ a, a < 18446744073709551616 → rg a = 0 → a = 0 ∨ a = 9223372036854775808 := fun a ha h => by unfold rg at h; omega
      rcases z x hl h1 with rfl | rfl <;> rcases z y hl2 h2 with rfl | rfl <;> decide
theorem rg_zero {x : Nat} (hx : fOk x) : rg x = 0 ↔ x = 0 ∨ x = 9223372036854775808 := by
  have := fOk_lt hx
  unfold rg; omega
theorem fOk_zero : fOk 0 := ⟨0, by omega, by decide⟩
theorem feq_zero {x : Nat} (hx : fOk x) : FloatKind.f64.format.order x 0 = some .eq ↔ x = 0 ∨ x = 9223372036854775808 := by
  rw [feq_iff hx fOk_zero, ← rg_zero hx]
  constructor
  · rintro (⟨_, rfl⟩ | ⟨h, _⟩)
    · rfl
    · exact h
  · exact fun h => .inr ⟨h, rfl⟩
theorem inv_zero : fltArith .quo 4607182418800017408 0 = 9218868437227405312 := by decide +kernel
theorem inv_mzero : fltArith .quo 4607182418800017408 9223372036854775808 = 18442240474082181120 := by decide +kernel
theorem gt_inf : FloatKind.f64.format.order 9218868437227405312 0 = some .gt := by decide +kernel
theorem gt_minf : FloatKind.f64.format.order 18442240474082181120 0 = some .lt := by decide +kernel
theorem feqz {x : Nat} (hx : fOk x) : (FloatKind.f64.format.order x 0 == some .eq) = decide (x = 0 ∨ x = 9223372036854775808) := by
  have := feq_zero hx
  by_cases h : FloatKind.f64.format.order x 0 = some .eq
  · simp [h, this.1 h]
  · have h2 : ¬ (x = 0 ∨ x = 9223372036854775808) := fun h3 => h (this.2 h3)
    simp [h2]; exact h
theorem gt_infb : (FloatKind.f64.format.order 9218868437227405312 0 == some .gt) = true := by rw [gt_inf]; rfl
theorem gt_minfb : (FloatKind.f64.format.order 18442240474082181120 0 == some .gt) = false := by rw [gt_minf]; rfl
def flI (n : Int) : Nat := canon (FloatKind.f64.nearest n)
theorem nN_of_rg {w : Nat} (h : rg w ≤ 9218868437227405312) : ¬ isN w := fun hn => by
  have h1 := rung_of_isN hn
  unfold rg at h
  omega
theorem rg_word' (s : Bool) (r : Nat) (hr : r ≤ 9218868437227405312) : rg (Ieee.double.word s r) = r := by
  have e1 : Ieee.double.signWeight = 9223372036854775808 := rfl
  unfold Ieee.Format.word rg
  rw [e1]
  cases s <;> simp <;> omega
theorem nN_nearest (s : Bool) (m : Nat) (p : Int) : ¬ isN (Ieee.double.nearest s m p) := by
  have e3 : Ieee.double.infRung = 9218868437227405312 := rfl
  unfold Ieee.Format.nearest
  split
  · exact nN_of_rg (by rw [rg_word' _ _ (by omega)]; omega)
  · simp only [e3]
    generalize hq : min _ 9218868437227405312 = q
    have : q ≤ 9218868437227405312 := by rw [← hq]; exact Nat.min_le_right _ _
    exact nN_of_rg (by rw [rg_word' _ _ this]; exact this)
theorem nN_fl (n : Int) : ¬ isN (flI n) := by
  have h : ¬ isN (FloatKind.f64.nearest n) := nN_nearest _ _ _
  unfold flI; rw [canon_not h]; exact h
theorem flI_ne (n : Int) : (FloatKind.f64.format.order (flI n) (flI n) != some .eq) = false := by rw [fne_self]; simp [nN_fl]
end Go.Proofs.YtehmdblkkpdmoaaGreatT

