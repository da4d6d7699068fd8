/- Texts of this session's own, one behind the other: Ka, Kr0. -/
import Derived.Test.YtmedelmfkciblaaPk9
import Derived.Test.YtmedelmfkciblaaProg
/- Rows of integers: what the laws' helpers do. -/
namespace Go.Proofs.YtmedelmfkciblaaT
set_option linter.unusedVariables false
set_option linter.unusedSimpArgs false
open Go

/- impl.within -/
def c154 : TCode := (.seq (.ops [⟨(some 6), 8, .mv (.c (.b false)), none, []⟩])
  (.seq (.ops [⟨(some 7), 9, .mv (.t 0), none, []⟩, ⟨(some 8), 10, .mv (.t 1), none, []⟩, ⟨(some 9), 11, .bin .geq (.t 7) (.t 8), none, []⟩, ⟨(some 10), 12, .mv (.t 9), none, []⟩, ⟨(some 11), 13, .mv (.t 0), (some (10, true)), []⟩, ⟨(some 12), 14, .mv (.t 2), (some (10, true)), []⟩, ⟨(some 13), 15, .bin .leq (.t 11) (.t 12), (some (10, true)), []⟩, ⟨(some 14), 16, .pick (.t 10) (.t 13) (.c (.b false)), none, []⟩, ⟨(some 6), 8, .mv (.t 14), none, []⟩])
  .ret))
theorem k154 : compCode Try.prog Try.f154.ntmps Try.f154.body.get! = some c154 := by kernel_rfl
theorem r154 : resTmps Try.prog Try.f154.results.toList = some [.tmp 6] := by kernel_rfl
/- spec.l1In -/
def c87 : TCode := (.seq (.ops [⟨(some 6), 8, .mv (.c (.b false)), none, []⟩])
  (.seq (.ops [⟨(some 7), 9, .mv (.t 0), none, []⟩, ⟨(some 8), 10, .mv (.t 1), none, []⟩, ⟨(some 9), 11, .bin .geq (.t 7) (.t 8), none, []⟩, ⟨(some 10), 12, .mv (.t 9), none, []⟩, ⟨(some 11), 13, .mv (.t 0), (some (10, true)), []⟩, ⟨(some 12), 14, .mv (.t 2), (some (10, true)), []⟩, ⟨(some 13), 15, .bin .leq (.t 11) (.t 12), (some (10, true)), []⟩, ⟨(some 14), 16, .pick (.t 10) (.t 13) (.c (.b false)), none, []⟩, ⟨(some 6), 8, .mv (.t 14), none, []⟩])
  .ret))
theorem k87 : compCode Try.prog Try.f87.ntmps Try.f87.body.get! = some c87 := by kernel_rfl
theorem r87 : resTmps Try.prog Try.f87.results.toList = some [.tmp 6] := by kernel_rfl
/- laws.szIntS -/
def c68 : TCode := (.seq (.ops [⟨(some 4), 6, .mv (.c (.i .i64 0)), none, []⟩])
  (.seq (.ops [⟨(some 5), 7, .mv (.t 1), none, []⟩, ⟨(some 6), 8, .mv (.t 0), none, []⟩, ⟨(some 7), 9, .len false (.t 6), none, []⟩, ⟨(some 8), 10, .bin .sub (.t 5) (.t 7), none, []⟩, ⟨(some 1), 3, .mv (.t 8), none, []⟩])
  (.seq (.seq (.ops [⟨(some 9), 11, .mv (.t 1), none, []⟩, ⟨(some 10), 12, .bin .lss (.t 9) (.c (.i .i64 0)), none, []⟩])
  (.cond (.t 10)
  (.seq (.ops [⟨(some 4), 6, .mv (.c (.i .i64 (-1))), none, []⟩])
  .ret)
  .skip))
  (.seq (.ops [⟨(some 11), 13, .mv (.t 1), none, []⟩, ⟨(some 4), 6, .mv (.t 11), none, []⟩])
  .ret))))
theorem k68 : compCode Try.prog Try.f68.ntmps Try.f68.body.get! = some c68 := by kernel_rfl
theorem r68 : resTmps Try.prog Try.f68.results.toList = some [.tmp 4] := by kernel_rfl
/- impl.copyInts -/
def c130 : TCode := (.seq (.ops [⟨(some 2), 4, .mv (.c (.sl true 1 [])), none, []⟩])
  (.seq (.ops [⟨(some 3), 5, .mv (.t 0), none, []⟩, ⟨(some 4), 6, .app 1 8 (.c (.sl true 1 [])) (.t 3), none, []⟩, ⟨(some 2), 4, .mv (.t 4), none, []⟩])
  .ret))
theorem k130 : compCode Try.prog Try.f130.ntmps Try.f130.body.get! = some c130 := by kernel_rfl
theorem r130 : resTmps Try.prog Try.f130.results.toList = some [.tmp 2] := by kernel_rfl
/- laws.toIntS -/
def c52 : TCode := (.seq (.ops [⟨(some 2), 4, .mv (.c (.sl true 1 [])), none, []⟩])
  (.seq (.ops [⟨(some 5), 7, .mv (.t 0), none, []⟩, ⟨(some 6), 8, .len false (.t 5), none, []⟩, ⟨(some 7), 9, .mkslice 1 8 [(.i .i64 0)] (.t 6) (.t 6), none, []⟩, ⟨(some 3), 5, .mv (.t 7), none, []⟩])
  (.seq (.seq (.ops [⟨(some 4), 6, .mv (.c (.i .i64 0)), none, []⟩])
  (.block 0 (.loop (.seq (.seq (.ops [⟨(some 8), 10, .mv (.t 4), none, []⟩, ⟨(some 9), 11, .mv (.t 0), none, []⟩, ⟨(some 10), 12, .len false (.t 9), none, []⟩, ⟨(some 11), 13, .bin .lss (.t 8) (.t 10), none, []⟩])
  (.cond (.t 11)
  .skip
  (.exit 0)))
  (.seq (.block 1 (.ops [⟨(some 14), 16, .mv (.t 3), none, []⟩, ⟨(some 15), 17, .mv (.t 4), none, []⟩, ⟨(some 16), 18, .mv (.t 0), none, []⟩, ⟨(some 17), 19, .mv (.t 4), none, []⟩, ⟨(some 18), 20, .iaddr 1 (.t 16) (.t 17), none, []⟩, ⟨(some 19), 21, .load false 1 (.t 18), none, []⟩, ⟨(some 20), 22, .iaddr 1 (.t 14) (.t 15), none, []⟩, ⟨none, 1005007, .store 1 (.t 20) (.t 19), none, []⟩]))
  (.ops [⟨(some 12), 14, .mv (.t 4), none, []⟩, ⟨(some 13), 15, .bin .add (.t 12) (.c (.i .i64 1)), none, []⟩, ⟨(some 4), 6, .mv (.t 13), none, []⟩]))))))
  (.seq (.ops [⟨(some 21), 23, .mv (.t 3), none, []⟩, ⟨(some 2), 4, .mv (.t 21), none, []⟩])
  .ret))))
theorem k52 : compCode Try.prog Try.f52.ntmps Try.f52.body.get! = some c52 := by kernel_rfl
theorem r52 : resTmps Try.prog Try.f52.results.toList = some [.tmp 2] := by kernel_rfl
/- laws.eqIntS -/
def c31 : TCode := (.seq (.ops [⟨(some 4), 6, .mv (.c (.b false)), none, []⟩])
  (.seq (.seq (.ops [⟨(some 6), 8, .mv (.t 0), none, []⟩, ⟨(some 7), 9, .len false (.t 6), none, []⟩, ⟨(some 8), 10, .mv (.t 1), none, []⟩, ⟨(some 9), 11, .len false (.t 8), none, []⟩, ⟨(some 10), 12, .bin .neq (.t 7) (.t 9), none, []⟩])
  (.cond (.t 10)
  (.seq (.ops [⟨(some 4), 6, .mv (.c (.b false)), none, []⟩])
  .ret)
  .skip))
  (.seq (.seq (.ops [⟨(some 5), 7, .mv (.c (.i .i64 0)), none, []⟩])
  (.block 0 (.loop (.seq (.seq (.ops [⟨(some 11), 13, .mv (.t 5), none, []⟩, ⟨(some 12), 14, .mv (.t 0), none, []⟩, ⟨(some 13), 15, .len false (.t 12), none, []⟩, ⟨(some 14), 16, .bin .lss (.t 11) (.t 13), none, []⟩])
  (.cond (.t 14)
  .skip
  (.exit 0)))
  (.seq (.block 1 (.seq (.draw [⟨(some 17), 19, .mv (.t 0), none, []⟩, ⟨(some 18), 20, .mv (.t 5), none, []⟩, ⟨(some 19), 21, .iaddr 1 (.t 17) (.t 18), none, []⟩, ⟨(some 20), 22, .load false 1 (.t 19), none, []⟩, ⟨(some 21), 23, .mv (.t 1), none, []⟩, ⟨(some 22), 24, .mv (.t 5), none, []⟩, ⟨(some 23), 25, .iaddr 1 (.t 21) (.t 22), none, []⟩, ⟨(some 24), 26, .load false 1 (.t 23), none, []⟩, ⟨(some 25), 27, .bin .neq (.t 20) (.t 24), none, []⟩])
  (.cond (.t 25)
  (.seq (.ops [⟨(some 4), 6, .mv (.c (.b false)), none, []⟩])
  .ret)
  .skip)))
  (.ops [⟨(some 15), 17, .mv (.t 5), none, []⟩, ⟨(some 16), 18, .bin .add (.t 15) (.c (.i .i64 1)), none, []⟩, ⟨(some 5), 7, .mv (.t 16), none, []⟩]))))))
  (.seq (.ops [⟨(some 4), 6, .mv (.c (.b true)), none, []⟩])
  .ret))))
theorem k31 : compCode Try.prog Try.f31.ntmps Try.f31.body.get! = some c31 := by kernel_rfl
theorem r31 : resTmps Try.prog Try.f31.results.toList = some [.tmp 4] := by kernel_rfl
/- laws.markIntS -/
def c34 : TCode := (.seq (.ops [⟨(some 4), 6, .mv (.c (.i .i64 0)), none, []⟩])
  (.seq (.seq (.ops [⟨(some 5), 7, .mv (.c (.i .i64 0)), none, []⟩])
  (.block 0 (.loop (.seq (.seq (.ops [⟨(some 6), 8, .mv (.t 5), none, []⟩, ⟨(some 7), 9, .mv (.t 0), none, []⟩, ⟨(some 8), 10, .len false (.t 7), none, []⟩, ⟨(some 9), 11, .bin .lss (.t 6) (.t 8), none, []⟩])
  (.cond (.t 9)
  .skip
  (.exit 0)))
  (.seq (.block 1 (.seq (.ops [⟨(some 12), 14, .mv (.t 0), none, []⟩, ⟨(some 13), 15, .mv (.t 5), none, []⟩, ⟨(some 14), 16, .mv (.t 1), none, []⟩, ⟨(some 15), 17, .iaddr 1 (.t 12) (.t 13), none, []⟩, ⟨none, 1004004, .store 1 (.t 15) (.t 14), none, []⟩])
  (.ops [⟨(some 16), 18, .mv (.t 1), none, []⟩, ⟨(some 17), 19, .bin .add (.t 16) (.c (.i .i64 1)), none, []⟩, ⟨(some 1), 3, .mv (.t 17), none, []⟩])))
  (.ops [⟨(some 10), 12, .mv (.t 5), none, []⟩, ⟨(some 11), 13, .bin .add (.t 10) (.c (.i .i64 1)), none, []⟩, ⟨(some 5), 7, .mv (.t 11), none, []⟩]))))))
  (.seq (.ops [⟨(some 18), 20, .mv (.t 1), none, []⟩, ⟨(some 4), 6, .mv (.t 18), none, []⟩])
  .ret)))
theorem k34 : compCode Try.prog Try.f34.ntmps Try.f34.body.get! = some c34 := by kernel_rfl
theorem r34 : resTmps Try.prog Try.f34.results.toList = some [.tmp 4] := by kernel_rfl
/- laws.heldIntS -/
def c35 : TCode := (.seq (.ops [⟨(some 4), 6, .mv (.c (.i .i64 0)), none, []⟩])
  (.seq (.seq (.ops [⟨(some 5), 7, .mv (.c (.i .i64 0)), none, []⟩])
  (.block 0 (.loop (.seq (.seq (.ops [⟨(some 6), 8, .mv (.t 5), none, []⟩, ⟨(some 7), 9, .mv (.t 0), none, []⟩, ⟨(some 8), 10, .len false (.t 7), none, []⟩, ⟨(some 9), 11, .bin .lss (.t 6) (.t 8), none, []⟩])
  (.cond (.t 9)
  .skip
  (.exit 0)))
  (.seq (.block 1 (.seq (.seq (.ops [⟨(some 12), 14, .mv (.t 0), none, []⟩, ⟨(some 13), 15, .mv (.t 5), none, []⟩, ⟨(some 14), 16, .iaddr 1 (.t 12) (.t 13), none, []⟩, ⟨(some 15), 17, .load false 1 (.t 14), none, []⟩, ⟨(some 16), 18, .mv (.t 1), none, []⟩, ⟨(some 17), 19, .bin .neq (.t 15) (.t 16), none, []⟩])
  (.cond (.t 17)
  (.seq (.ops [⟨(some 4), 6, .mv (.c (.i .i64 (-1))), none, []⟩])
  .ret)
  .skip))
  (.ops [⟨(some 18), 20, .mv (.t 1), none, []⟩, ⟨(some 19), 21, .bin .add (.t 18) (.c (.i .i64 1)), none, []⟩, ⟨(some 1), 3, .mv (.t 19), none, []⟩])))
  (.ops [⟨(some 10), 12, .mv (.t 5), none, []⟩, ⟨(some 11), 13, .bin .add (.t 10) (.c (.i .i64 1)), none, []⟩, ⟨(some 5), 7, .mv (.t 11), none, []⟩]))))))
  (.seq (.ops [⟨(some 20), 22, .mv (.t 1), none, []⟩, ⟨(some 4), 6, .mv (.t 20), none, []⟩])
  .ret)))
theorem k35 : compCode Try.prog Try.f35.ntmps Try.f35.body.get! = some c35 := by kernel_rfl
theorem r35 : resTmps Try.prog Try.f35.results.toList = some [.tmp 4] := by kernel_rfl
/- impl.isKind -/
def c151 : TCode := (.seq (.ops [⟨(some 2), 4, .mv (.c (.b false)), none, []⟩])
  (.seq (.ops [⟨(some 3), 5, .mv (.t 0), none, []⟩, ⟨(some 4), 6, .call 154 [((.t 3), 0), ((.c (.i .i64 1)), 0), ((.c (.i .i64 4)), 0)], none, []⟩, ⟨(some 2), 4, .mv (.t 4), none, []⟩])
  .ret))
theorem k151 : compCode Try.prog Try.f151.ntmps Try.f151.body.get! = some c151 := by kernel_rfl
theorem r151 : resTmps Try.prog Try.f151.results.toList = some [.tmp 2] := by kernel_rfl

theorem w154 (x lo hi : Int) : Contract Try.prog false 154 [.ro, .ro, .ro] [.i .i64 x, .i .i64 lo, .i .i64 hi] [.b (decide (lo ≤ x ∧ x ≤ hi))] [] := by
  refine mk_contract [] Try.func154 (c := Try.f154.body.get!) (by kernel_rfl) k154 r154 (of_decide_eq_true rfl) fun _ => ?_
  unfold c154; simp
  by_cases h : lo ≤ x <;> simp [h]
theorem w151 (k : Int) : Contract Try.prog false 151 [.ro] [.i .i64 k] [.b (decide (1 ≤ k ∧ k ≤ 4))] [] := by
  refine mk_contract [] Try.func151 (c := Try.f151.body.get!) (by kernel_rfl) k151 r151 (of_decide_eq_true rfl) fun _ => ?_
  unfold c151; simp
  refine callW_ms [.ro, .ro, .ro] ?_
  simp
  refine callX_of (w154 k 1 4) (by simp) ?_
  simp
theorem w87 (x lo hi : Int) : Contract Try.prog false 87 [.ro, .ro, .ro] [.i .i64 x, .i .i64 lo, .i .i64 hi] [.b (decide (lo ≤ x ∧ x ≤ hi))] [] := by
  refine mk_contract [] Try.func87 (c := Try.f87.body.get!) (by kernel_rfl) k87 r87 (of_decide_eq_true rfl) fun _ => ?_
  unfold c87; simp
  by_cases h : lo ≤ x <;> simp [h]

/-- What is left of n when k is taken off. -/
def szF (n k : Int) : Int := if n - k < 0 then -1 else n - k
theorem w68 (l : List Int) (n : Int) (hl : l.length < 2^63) (hn : n < 2^62) (hn0 : 0 ≤ n) : Contract Try.prog false 68 [.ro, .ro] [.sl false 1 (l.map iT), .i .i64 n] [.i .i64 (szF n l.length)] [] := by
  refine mk_contract [] Try.func68 (c := Try.f68.body.get!) (by kernel_rfl) k68 r68 (of_decide_eq_true rfl) fun _ => ?_
  have hw : IntKind.i64.wrap (n - l.length) = n - l.length := wrap_id (by omega) (by omega)
  unfold c68 szF; simp [hw]
  omega
theorem w130 (l : List Int) (hl : l.length ≤ 2^40) : Contract Try.prog false 130 [.ro] [.sl false 1 (l.map iT)] [.sl true 1 (l.map iT)] [] := by
  refine mk_contract [] Try.func130 (c := Try.f130.body.get!) (by kernel_rfl) k130 r130 (of_decide_eq_true rfl) fun _ => ?_
  unfold c130; simp
  omega
theorem w52 (l : List Int) (hl : l.length ≤ 2^40) : Contract Try.prog false 52 [.ro] [.sl false 1 (l.map iT)] [.sl true 1 (l.map iT)] [] := by
  refine mk_contract [] Try.func52 (c := Try.f52.body.get!) (by kernel_rfl) k52 r52 (of_decide_eq_true rfl) fun _ => ?_
  unfold c52; simp
  refine ⟨by omega, ?_⟩
  refine twp_for l.length (fun j s => s.t 0 = .sl false 1 (l.map iT) ∧ s.t 3 = .rf [(9, 0)] 0 l.length ∧ s.t 4 = .i .i64 j ∧
    s.H = lk [(1, []), (9, [.sl true 1 (List.take j (l.map iT) ++ List.replicate (l.length - j) [.i .i64 0])])]) [] (by simp) ?_ ?_
  · simp
  · rintro j s hj ⟨q0, q3, q4, qH⟩
    rw [nf_of qH]
    simp [q0, q3, q4]
    refine ⟨fun hlt => ?_, fun hge => ?_⟩
    · have hw : IntKind.i64.wrap (j + 1) = j + 1 := wrap_id (by omega) (by omega)
      obtain ⟨x, hx⟩ := get_some hlt
      have hm := fill_modify (L := l.map iT) (z := [.i .i64 0]) (φ := fun e => e.modify 0 fun _ => .i .i64 x) (j := j) (N := l.length) (by simp) (by simp [hx, iT])
      have hg := fill_get (L := l.map iT) (z := [.i .i64 0]) (j := j) (N := l.length) (by simp) hlt
      simp [hx, hw, q0, q3, q4, iT, hg, hm]
      omega
    · obtain rfl : j = l.length := by omega
      simp [q0, q3, q4]
theorem w31 (a b : List Int) (ha : a.length ≤ 2^40) (hb : b.length ≤ 2^40) : Contract Try.prog false 31 [.ro, .ro] [.sl false 1 (a.map iT), .sl false 1 (b.map iT)] [.b (decide (a = b))] [] := by
  refine mk_contract [] Try.func31 (c := Try.f31.body.get!) (by kernel_rfl) k31 r31 (of_decide_eq_true rfl) fun _ => ?_
  unfold c31; simp
  refine ⟨fun h => ?_, fun h => ?_⟩
  · refine twp_for a.length (fun j s => s.t 0 = .sl false 1 (a.map iT) ∧ s.t 1 = .sl false 1 (b.map iT) ∧ s.t 5 = .i .i64 j ∧ a.take j = b.take j ∧
      s.H = lk [(1, [])]) [] (by simp) ?_ ?_
    · simp
    · rintro j s hj ⟨q0, q1, q5, hab, qH⟩
      rw [nf_of qH]
      simp [q0, q1, q5]
      refine ⟨fun hlt => ?_, fun hge => ?_⟩
      · have hw : IntKind.i64.wrap (j + 1) = j + 1 := wrap_id (by omega) (by omega)
        obtain ⟨x, hx⟩ := get_some hlt
        obtain ⟨y, hy⟩ := get_some (l := b) (j := j) (by omega)
        simp [hx, hy, hw, q0, q1, q5, iT]
        refine ⟨fun hxy => ⟨hlt, ?_⟩, fun hxy hab => hxy (by subst hab; simpa [hx] using hy)⟩
        rw [List.take_add_one, List.take_add_one, hab, hx, hy, hxy]
      · obtain rfl : j = a.length := by omega
        rw [List.take_of_length_le (Nat.le_refl _), List.take_of_length_le (by omega)] at hab
        exact hab
  · rintro rfl; exact h rfl
theorem w34 (l : List Int) (k : Int) (hl : l.length ≤ 2^40) (hk : 0 ≤ k) (hk2 : k ≤ 2^40) : Contract Try.prog false 34 [.own, .ro] [.sl true 1 (l.map iT), .i .i64 k] [.i .i64 (k + l.length)] [some (.sl true 1 ((cnt k l.length).map iT))] := by
  refine mk_contract [some [(1, 0)]] Try.func34 (c := Try.f34.body.get!) (by kernel_rfl) k34 r34 (of_decide_eq_true rfl) fun _ => ?_
  unfold c34; simp
  refine twp_for l.length (fun j s => s.t 0 = .rf [(1, 0)] 0 l.length ∧ s.t 1 = .i .i64 (k + j) ∧ s.t 5 = .i .i64 j ∧
    s.H = lk [(1, [.sl true 1 ((cnt k j).map iT ++ (l.map iT).drop j)])]) [] (by simp) ?_ ?_
  · simp
  · rintro j s hj ⟨q0, q1, q5, qH⟩
    rw [nf_of qH]
    simp [q0, q1, q5]
    refine ⟨fun hlt => ?_, fun hge => ?_⟩
    · have hw : IntKind.i64.wrap (j + 1) = j + 1 := wrap_id (by omega) (by omega)
      have hw2 : IntKind.i64.wrap (k + j + 1) = k + j + 1 := wrap_id (by omega) (by omega)
      obtain ⟨x, hx⟩ := get_some hlt
      have hg := upd_get (A := (cnt k j).map iT) (L := l.map iT) (j := j) (x := iT x) (by simp) (by simp [hx])
      have hm := upd_modify (A := (cnt k j).map iT) (L := l.map iT) (j := j) (x := iT x) (φ := fun e => e.modify 0 fun _ => .i .i64 (k + j)) (by simp) (by simp [hx])
      simp [hw, hw2, q0, q1, q5, hg, hm, cnt, iT]
      omega
    · obtain rfl : j = l.length := by omega
      simp [q0, q1, q5]
theorem w35 (l : List Int) (k : Int) (hl : l.length ≤ 2^40) (hk : 0 ≤ k) (hk2 : k ≤ 2^40) : Contract Try.prog false 35 [.ro, .ro] [.sl false 1 (l.map iT), .i .i64 k] [.i .i64 (if l = cnt k l.length then k + l.length else -1)] [] := by
  refine mk_contract [] Try.func35 (c := Try.f35.body.get!) (by kernel_rfl) k35 r35 (of_decide_eq_true rfl) fun _ => ?_
  unfold c35; simp
  refine twp_for l.length (fun j s => s.t 0 = .sl false 1 (l.map iT) ∧ s.t 1 = .i .i64 (k + j) ∧ s.t 5 = .i .i64 j ∧ l.take j = cnt k j ∧
    s.H = lk [(1, [])]) [] (by simp) ?_ ?_
  · simp
  · rintro j s hj ⟨q0, q1, q5, hc, qH⟩
    rw [nf_of qH]
    simp [q0, q1, q5]
    refine ⟨fun hlt => ?_, fun hge => ?_⟩
    · have hw : IntKind.i64.wrap (j + 1) = j + 1 := wrap_id (by omega) (by omega)
      have hw2 : IntKind.i64.wrap (k + j + 1) = k + j + 1 := wrap_id (by omega) (by omega)
      obtain ⟨x, hx⟩ := get_some hlt
      simp [hx, hw, hw2, q0, q1, q5, iT]
      refine ⟨fun hxe => ⟨hlt, by omega, ?_⟩, fun hne hc2 => ?_⟩
      · rw [take_snoc hx, hc, hxe]; rfl
      · have h2 := cnt_get k hlt
        rw [← hc2, hx] at h2
        cases h2; exact absurd rfl hne
    · obtain rfl : j = l.length := by omega
      simp [q0, q1, q5]
      intro h; rw [List.take_of_length_le (Nat.le_refl _)] at hc; exact absurd hc h
theorem szF_lo (n k : Int) : -1 ≤ szF n k := by unfold szF; split <;> omega
theorem szF_le (n k : Int) (hk : 0 ≤ k) (hn : 0 ≤ n) : szF n k ≤ n := by unfold szF; split <;> omega
theorem szF_neg (n k : Int) (h : szF n k < 0) : szF n k = -1 := by have := szF_lo n k; omega
theorem szF_k (n k : Int) (h : 0 ≤ szF n k) : k ≤ n := by unfold szF at h; split at h <;> omega

/-! what is left when lists are counted -/
def szA {α : Type} (f : α → Int → Int) (l : List α) (n : Int) : Int := l.foldl (fun m x => if m < 0 then -1 else f x m) n
theorem szA_snoc {α : Type} (f : α → Int → Int) (l : List α) (x : α) (n : Int) : szA f (l ++ [x]) n = if szA f l n < 0 then -1 else f x (szA f l n) := by
  rw [szA, List.foldl_append]; rfl
@[simp] theorem szA_nil {α : Type} (f : α → Int → Int) (n : Int) : szA f [] n = n := rfl
theorem szA_neg {α : Type} (f : α → Int → Int) : ∀ (l : List α) (n : Int), n = -1 → szA f l n = -1
  | [], n, h => h
  | x :: l, n, h => by
    show szA f l (if n < 0 then -1 else f x n) = -1
    exact szA_neg f l _ (by simp [h])
theorem szA_app {α : Type} (f : α → Int → Int) (l r : List α) (n : Int) : szA f (l ++ r) n = szA f r (szA f l n) := by simp [szA, List.foldl_append]
theorem szA_take {α : Type} (f : α → Int → Int) (l : List α) (n : Int) (j : Nat) (h : szA f (l.take j) n = -1) : szA f l n = -1 := by
  rw [← List.take_append_drop j l, szA_app]; exact szA_neg f _ _ h
theorem szA_ok {α : Type} {f : α → Int → Int} (hf : ∀ x m, 0 ≤ m → f x m ≤ m) : ∀ (l : List α) (n : Int), 0 ≤ szA f l n → 0 ≤ n → szA f l n ≤ n ∧ ∀ x ∈ l, ∃ m, 0 ≤ m ∧ m ≤ n ∧ 0 ≤ f x m
  | [], n, h, h0 => ⟨Int.le_refl _, by simp⟩
  | x :: l, n, h, h0 => by
    have e : szA f (x :: l) n = szA f l (f x n) := by show szA f l (if n < 0 then -1 else f x n) = _; rw [if_neg (by omega)]
    rw [e] at h ⊢
    have hx : 0 ≤ f x n := by
      rcases Int.lt_or_le (f x n) 0 with h' | h'
      · exfalso
        cases l with
        | nil => simp at h; omega
        | cons y l =>
          have : szA f (y :: l) (f x n) = szA f l (-1) := by show szA f l (if f x n < 0 then -1 else f y (f x n)) = _; rw [if_pos h']
          rw [this, szA_neg f l _ rfl] at h; omega
      · exact h'
    have hle := hf x n h0
    obtain ⟨h1, h2⟩ := szA_ok hf l _ h hx
    refine ⟨by omega, fun y hy => ?_⟩
    rcases List.mem_cons.1 hy with rfl | hy
    · exact ⟨n, h0, Int.le_refl _, hx⟩
    · obtain ⟨m, m1, m2, m3⟩ := h2 y hy; exact ⟨m, m1, by omega, m3⟩
/-- A list: its length, then its parts. -/
def szS {α : Type} (f : α → Int → Int) (l : List α) (n : Int) : Int := if szF n l.length < 0 then -1 else szA f l (szF n l.length)

theorem szF_pos {n k : Int} (h : 0 ≤ szF n k) : szF n k = n - k ∧ k ≤ n := by unfold szF at h ⊢; split at h <;> split <;> omega
theorem szS_lo {α : Type} {f : α → Int → Int} {l : List α} {n : Int} (hf : ∀ x m, 0 ≤ m → f x m ≤ m) (h0 : 0 ≤ n) (h : ¬ szS f l n < 0) : 0 ≤ szS f l n ∧ szS f l n ≤ n ∧ (l.length : Int) ≤ n ∧ ∀ x ∈ l, ∃ m, 0 ≤ m ∧ m ≤ n ∧ 0 ≤ f x m := by
  unfold szS at h ⊢
  split at h
  · omega
  · rename_i h1
    rw [if_neg h1]
    obtain ⟨h2, h3⟩ := szF_pos (by omega : 0 ≤ szF n l.length)
    obtain ⟨h4, h5⟩ := szA_ok hf l _ (by omega) (by omega : 0 ≤ szF n l.length)
    refine ⟨by omega, by omega, by omega, fun x hx => ?_⟩
    obtain ⟨m, m1, m2, m3⟩ := h5 x hx
    exact ⟨m, m1, by omega, m3⟩
theorem szA_neg' {α : Type} {f : α → Int → Int} (hn : ∀ x m, f x m < 0 → f x m = -1) : ∀ (l : List α) (n : Int), 0 ≤ n → szA f l n < 0 → szA f l n = -1
  | [], n, h0, h => by simp at h; omega
  | x :: l, n, h0, h => by
    have e : szA f (x :: l) n = szA f l (f x n) := by show szA f l (if n < 0 then -1 else f x n) = _; rw [if_neg (by omega)]
    rw [e] at h ⊢
    rcases Int.lt_or_le (f x n) 0 with h' | h'
    · exact szA_neg f l _ (hn x n h')
    · exact szA_neg' hn l _ h' h
theorem szS_neg {α : Type} {f : α → Int → Int} (hn : ∀ x m, f x m < 0 → f x m = -1) (l : List α) (n : Int) (h : szS f l n < 0) : szS f l n = -1 := by
  unfold szS at h ⊢
  split
  · rfl
  · rename_i h1
    rw [if_neg h1] at h
    exact szA_neg' hn l _ (by omega) h
end Go.Proofs.YtmedelmfkciblaaT

/- Bytes and draws. -/
namespace Go.Proofs.YtmedelmfkciblaaT
set_option linter.unusedVariables false
set_option linter.unusedSimpArgs false
open Go

/- laws.big -/
def c20 : TCode := (.seq (.ops [⟨(some 2), 4, .mv (.c (.b false)), none, []⟩])
  (.seq (.ops [⟨(some 3), 5, .mv (.t 0), none, []⟩, ⟨(some 4), 6, .len false (.t 3), none, []⟩, ⟨(some 5), 7, .bin .gtr (.t 4) (.c (.i .i64 1048576)), none, []⟩, ⟨(some 2), 4, .mv (.t 5), none, []⟩])
  .ret))
theorem k20 : compCode Try.prog Try.f20.ntmps Try.f20.body.get! = some c20 := by kernel_rfl
theorem r20 : resTmps Try.prog Try.f20.results.toList = some [.tmp 2] := by kernel_rfl
/- spec.l1New -/
def c71 : TCode := (.seq (.ops [⟨(some 2), 4, .mv (.c .np), none, []⟩])
  (.seq (.ops [⟨(some 5), 7, .mv (.t 0), none, []⟩, ⟨(some 6), 8, .len false (.t 5), none, []⟩, ⟨(some 7), 9, .bin .add (.c (.i .i64 70070)) (.t 6), none, []⟩, ⟨(some 3), 5, .mv (.t 7), none, []⟩])
  (.seq (.seq (.ops [⟨(some 4), 6, .mv (.c (.i .i64 0)), none, []⟩])
  (.block 0 (.loop (.seq (.seq (.ops [⟨(some 8), 10, .mv (.t 4), none, []⟩, ⟨(some 9), 11, .mv (.t 0), none, []⟩, ⟨(some 10), 12, .len false (.t 9), none, []⟩, ⟨(some 11), 13, .bin .lss (.t 8) (.t 10), none, []⟩, ⟨(some 12), 14, .mv (.t 11), none, []⟩, ⟨(some 13), 15, .mv (.t 4), (some (12, true)), []⟩, ⟨(some 14), 16, .bin .lss (.t 13) (.c (.i .i64 4000)), (some (12, true)), []⟩, ⟨(some 15), 17, .pick (.t 12) (.t 14) (.c (.b false)), none, []⟩])
  (.cond (.t 15)
  .skip
  (.exit 0)))
  (.seq (.block 1 (.ops [⟨(some 18), 20, .mv (.t 3), none, []⟩, ⟨(some 19), 21, .bin .mul (.t 18) (.c (.i .i64 131)), none, []⟩, ⟨(some 20), 22, .mv (.t 0), none, []⟩, ⟨(some 21), 23, .mv (.t 4), none, []⟩, ⟨(some 22), 24, .iaddr 1 (.t 20) (.t 21), none, []⟩, ⟨(some 23), 25, .load false 1 (.t 22), none, []⟩, ⟨(some 24), 26, .toInt .i64 (.t 23), none, []⟩, ⟨(some 25), 27, .bin .add (.t 19) (.t 24), none, []⟩, ⟨(some 26), 28, .bin .add (.t 25) (.c (.i .i64 7)), none, []⟩, ⟨(some 27), 29, .bin .and (.t 26) (.c (.i .i64 1073741823)), none, []⟩, ⟨(some 3), 5, .mv (.t 27), none, []⟩]))
  (.ops [⟨(some 16), 18, .mv (.t 4), none, []⟩, ⟨(some 17), 19, .bin .add (.t 16) (.c (.i .i64 1)), none, []⟩, ⟨(some 4), 6, .mv (.t 17), none, []⟩]))))))
  (.seq (.ops [⟨(some 28), 30, .mv (.t 0), none, []⟩, ⟨(some 29), 31, .mv (.t 3), none, []⟩, ⟨(some 30), 32, .build [(.sl true 1 []), (.i .i64 0), (.i .i64 0)] [(0, 1, (.t 28)), (2, 1, (.t 29))], none, []⟩, ⟨(some 31), 33, .box 3 (.t 30), none, []⟩, ⟨(some 2), 4, .mv (.t 31), none, []⟩])
  .ret))))
theorem k71 : compCode Try.prog Try.f71.ntmps Try.f71.body.get! = some c71 := by kernel_rfl
theorem r71 : resTmps Try.prog Try.f71.results.toList = some [.tmp 2] := by kernel_rfl
/- spec.l1Byte -/
def c183 : TCode := (.seq (.ops [⟨(some 2), 4, .mv (.c (.i .i64 0)), none, []⟩])
  (.seq (.ops [⟨(some 4), 6, .mv (.t 0), none, []⟩, ⟨(some 5), 7, .mv (.t 0), none, []⟩, ⟨(some 6), 8, .nilck (.t 5), none, []⟩, ⟨(some 7), 9, .faddr 2 1 (.t 6), none, []⟩, ⟨(some 8), 10, .load false 1 (.t 7), none, []⟩, ⟨(some 9), 11, .bin .mul (.t 8) (.c (.i .i64 6364136223846793005)), none, []⟩, ⟨(some 10), 12, .bin .add (.t 9) (.c (.i .i64 1442695040888963407)), none, []⟩, ⟨(some 11), 13, .nilck (.t 4), none, []⟩, ⟨(some 12), 14, .faddr 2 1 (.t 11), none, []⟩, ⟨none, 1001009, .store 1 (.t 12) (.t 10), none, []⟩])
  (.seq (.draw [⟨(some 13), 15, .mv (.t 0), none, []⟩, ⟨(some 14), 16, .nilck (.t 13), none, []⟩, ⟨(some 15), 17, .faddr 2 1 (.t 14), none, []⟩, ⟨(some 16), 18, .load false 1 (.t 15), none, []⟩, ⟨(some 17), 19, .bin .shr (.t 16) (.c (.i .u64 33)), none, []⟩, ⟨(some 18), 20, .mv (.t 0), none, []⟩, ⟨(some 19), 21, .nilck (.t 18), none, []⟩, ⟨(some 20), 22, .faddr 2 1 (.t 19), none, []⟩, ⟨(some 21), 23, .load false 1 (.t 20), none, []⟩, ⟨(some 22), 24, .bin .shr (.t 21) (.c (.i .u64 45)), none, []⟩, ⟨(some 23), 25, .bin .xor (.t 17) (.t 22), none, []⟩, ⟨(some 24), 26, .bin .and (.t 23) (.c (.i .i64 255)), none, []⟩, ⟨(some 3), 5, .mv (.t 24), none, []⟩])
  (.seq (.seq (.draw [⟨(some 25), 27, .mv (.t 0), none, []⟩, ⟨(some 26), 28, .nilck (.t 25), none, []⟩, ⟨(some 27), 29, .faddr 1 1 (.t 26), none, []⟩, ⟨(some 28), 30, .load false 1 (.t 27), none, []⟩, ⟨(some 29), 31, .mv (.t 0), none, []⟩, ⟨(some 30), 32, .nilck (.t 29), none, []⟩, ⟨(some 31), 33, .faddr 0 1 (.t 30), none, []⟩, ⟨(some 32), 34, .load false 1 (.t 31), none, []⟩, ⟨(some 33), 35, .len false (.t 32), none, []⟩, ⟨(some 34), 36, .bin .lss (.t 28) (.t 33), none, []⟩])
  (.cond (.t 34)
  (.seq (.draw [⟨(some 35), 37, .mv (.t 3), none, []⟩, ⟨(some 36), 38, .mv (.t 0), none, []⟩, ⟨(some 37), 39, .nilck (.t 36), none, []⟩, ⟨(some 38), 40, .faddr 0 1 (.t 37), none, []⟩, ⟨(some 39), 41, .load false 1 (.t 38), none, []⟩, ⟨(some 40), 42, .mv (.t 0), none, []⟩, ⟨(some 41), 43, .nilck (.t 40), none, []⟩, ⟨(some 42), 44, .faddr 1 1 (.t 41), none, []⟩, ⟨(some 43), 45, .load false 1 (.t 42), none, []⟩, ⟨(some 44), 46, .iaddr 1 (.t 39) (.t 43), none, []⟩, ⟨(some 45), 47, .load false 1 (.t 44), none, []⟩, ⟨(some 46), 48, .toInt .i64 (.t 45), none, []⟩, ⟨(some 47), 49, .bin .add (.t 35) (.t 46), none, []⟩, ⟨(some 48), 50, .bin .and (.t 47) (.c (.i .i64 255)), none, []⟩, ⟨(some 3), 5, .mv (.t 48), none, []⟩])
  (.ops [⟨(some 49), 51, .mv (.t 0), none, []⟩, ⟨(some 50), 52, .mv (.t 0), none, []⟩, ⟨(some 51), 53, .nilck (.t 50), none, []⟩, ⟨(some 52), 54, .faddr 1 1 (.t 51), none, []⟩, ⟨(some 53), 55, .load false 1 (.t 52), none, []⟩, ⟨(some 54), 56, .bin .add (.t 53) (.c (.i .i64 1)), none, []⟩, ⟨(some 55), 57, .nilck (.t 49), none, []⟩, ⟨(some 56), 58, .faddr 1 1 (.t 55), none, []⟩, ⟨none, 1005008, .store 1 (.t 56) (.t 54), none, []⟩]))
  .skip))
  (.seq (.ops [⟨(some 57), 59, .mv (.t 3), none, []⟩, ⟨(some 2), 4, .mv (.t 57), none, []⟩])
  .ret)))))
theorem k183 : compCode Try.prog Try.f183.ntmps Try.f183.body.get! = some c183 := by kernel_rfl
theorem r183 : resTmps Try.prog Try.f183.results.toList = some [.tmp 2] := by kernel_rfl
/- spec.l1Below -/
def c142 : TCode := (.seq (.ops [⟨(some 4), 6, .mv (.c (.i .i64 0)), none, []⟩])
  (.seq (.seq (.ops [⟨(some 9), 11, .mv (.t 1), none, []⟩, ⟨(some 10), 12, .bin .leq (.t 9) (.c (.i .i64 0)), none, []⟩])
  (.cond (.t 10)
  (.seq (.ops [⟨(some 4), 6, .mv (.c (.i .i64 0)), none, []⟩])
  .ret)
  .skip))
  (.seq (.seq (.ops [⟨(some 11), 13, .mv (.t 1), none, []⟩, ⟨(some 12), 14, .bin .leq (.t 11) (.c (.i .i64 256)), none, []⟩])
  (.cond (.t 12)
  (.seq (.ops [⟨(some 13), 15, .mv (.t 0), none, []⟩, ⟨(some 14), 16, .call 183 [((.t 13), 3)], none, []⟩, ⟨(some 15), 17, .mv (.t 1), none, []⟩, ⟨(some 16), 18, .bin .rem (.t 14) (.t 15), none, []⟩, ⟨(some 4), 6, .mv (.t 16), none, []⟩])
  .ret)
  .skip))
  (.seq (.ops [⟨(some 17), 19, .mv (.t 0), none, []⟩, ⟨(some 18), 20, .call 183 [((.t 17), 3)], none, []⟩, ⟨(some 5), 7, .mv (.t 18), none, []⟩])
  (.seq (.ops [⟨(some 19), 21, .mv (.t 0), none, []⟩, ⟨(some 20), 22, .call 183 [((.t 19), 3)], none, []⟩, ⟨(some 6), 8, .mv (.t 20), none, []⟩])
  (.seq (.ops [⟨(some 21), 23, .mv (.t 0), none, []⟩, ⟨(some 22), 24, .call 183 [((.t 21), 3)], none, []⟩, ⟨(some 7), 9, .mv (.t 22), none, []⟩])
  (.seq (.ops [⟨(some 23), 25, .mv (.t 0), none, []⟩, ⟨(some 24), 26, .call 183 [((.t 23), 3)], none, []⟩, ⟨(some 8), 10, .mv (.t 24), none, []⟩])
  (.seq (.ops [⟨(some 25), 27, .mv (.t 5), none, []⟩, ⟨(some 26), 28, .bin .mul (.t 25) (.c (.i .i64 16777216)), none, []⟩, ⟨(some 27), 29, .mv (.t 6), none, []⟩, ⟨(some 28), 30, .bin .mul (.t 27) (.c (.i .i64 65536)), none, []⟩, ⟨(some 29), 31, .bin .add (.t 26) (.t 28), none, []⟩, ⟨(some 30), 32, .mv (.t 7), none, []⟩, ⟨(some 31), 33, .bin .mul (.t 30) (.c (.i .i64 256)), none, []⟩, ⟨(some 32), 34, .bin .add (.t 29) (.t 31), none, []⟩, ⟨(some 33), 35, .mv (.t 8), none, []⟩, ⟨(some 34), 36, .bin .add (.t 32) (.t 33), none, []⟩, ⟨(some 35), 37, .mv (.t 1), none, []⟩, ⟨(some 36), 38, .bin .rem (.t 34) (.t 35), none, []⟩, ⟨(some 4), 6, .mv (.t 36), none, []⟩])
  .ret))))))))
theorem k142 : compCode Try.prog Try.f142.ntmps Try.f142.body.get! = some c142 := by kernel_rfl
theorem r142 : resTmps Try.prog Try.f142.results.toList = some [.tmp 4] := by kernel_rfl
/- spec.l1Once -/
def c132 : TCode := (.seq (.ops [⟨(some 4), 6, .mv (.c (.b false)), none, []⟩])
  (.seq (.ops [⟨(some 5), 7, .mv (.t 0), none, []⟩, ⟨(some 6), 8, .mv (.t 1), none, []⟩, ⟨(some 7), 9, .call 142 [((.t 5), 3), ((.t 6), 0)], none, []⟩, ⟨(some 8), 10, .bin .eql (.t 7) (.c (.i .i64 0)), none, []⟩, ⟨(some 4), 6, .mv (.t 8), none, []⟩])
  .ret))
theorem k132 : compCode Try.prog Try.f132.ntmps Try.f132.body.get! = some c132 := by kernel_rfl
theorem r132 : resTmps Try.prog Try.f132.results.toList = some [.tmp 4] := by kernel_rfl
/- spec.l1PickInt -/
def c171 : TCode := (.seq (.ops [⟨(some 4), 6, .mv (.c (.i .i64 0)), none, []⟩])
  (.seq (.ops [⟨(some 5), 7, .mv (.t 1), none, []⟩, ⟨(some 6), 8, .mv (.t 0), none, []⟩, ⟨(some 7), 9, .mv (.t 1), none, []⟩, ⟨(some 8), 10, .len false (.t 7), none, []⟩, ⟨(some 9), 11, .call 142 [((.t 6), 3), ((.t 8), 0)], none, []⟩, ⟨(some 10), 12, .iaddr 1 (.t 5) (.t 9), none, []⟩, ⟨(some 11), 13, .load false 1 (.t 10), none, []⟩, ⟨(some 4), 6, .mv (.t 11), none, []⟩])
  .ret))
theorem k171 : compCode Try.prog Try.f171.ntmps Try.f171.body.get! = some c171 := by kernel_rfl
theorem r171 : resTmps Try.prog Try.f171.results.toList = some [.tmp 4] := by kernel_rfl
/- spec.l1Pick -/
def c172 : TCode := (.seq (.ops [⟨(some 4), 6, .mv (.c (.s ⟨#[]⟩)), none, []⟩])
  (.seq (.ops [⟨(some 5), 7, .mv (.t 1), none, []⟩, ⟨(some 6), 8, .mv (.t 0), none, []⟩, ⟨(some 7), 9, .mv (.t 1), none, []⟩, ⟨(some 8), 10, .len false (.t 7), none, []⟩, ⟨(some 9), 11, .call 142 [((.t 6), 3), ((.t 8), 0)], none, []⟩, ⟨(some 10), 12, .iaddr 1 (.t 5) (.t 9), none, []⟩, ⟨(some 11), 13, .load false 1 (.t 10), none, []⟩, ⟨(some 4), 6, .mv (.t 11), none, []⟩])
  .ret))
theorem k172 : compCode Try.prog Try.f172.ntmps Try.f172.body.get! = some c172 := by kernel_rfl
theorem r172 : resTmps Try.prog Try.f172.results.toList = some [.tmp 4] := by kernel_rfl

@[simp] def uT (n : Int) : List TV := [.i .u8 n]
@[simp] theorem fzL_uT (n : Int) : fzL (uT n) = uT n := rfl
@[simp] theorem fzLL_uT (l : List (Int)) : fzLL (l.map uT) = l.map uT := fzLL_map fzL_uT l
@[simp] theorem noROLL_uT (l : List (Int)) : noROLL (l.map uT) = true := noROLL_map (fun _ => rfl) l
@[simp] theorem noref_uT (l : List (Int)) : (l.map uT).all (·.all noref) = true := noref_map (fun _ => rfl) l
@[simp] theorem srcT_uT (H : Hp) (z : Nat) (l : List (Int)) : srcT H (.sl false z (l.map uT)) = some (z, l.map uT, H, []) := by simp only [srcT, noref_uT, if_true]
theorem w20 (bs : List Int) : Contract Try.prog false 20 [.ro] [.sl false 1 (bs.map uT)] [.b (decide (1048576 < bs.length))] [] := by
  refine mk_contract [] Try.func20 (c := Try.f20.body.get!) (by kernel_rfl) k20 r20 (of_decide_eq_true rfl) fun _ => ?_
  unfold c20; simp
  omega
def atF (bs : List Int) (i : Nat) : Int := match bs[i]? with | some x => IntKind.i64.wrap x | none => ((i : Int) * 7 + bs.length).tmod 256
def bytes (bs : List Int) : Prop := ∀ x ∈ bs, 0 ≤ x ∧ x ≤ 255
def curT (bs : List Int) (i : Nat) (h : Int) : TV := .po true [.sl false 1 (bs.map uT), .i .i64 i, .i .i64 h]
def byteF (n : Nat) : Int := IntKind.i64.wrap ((n &&& 255 % 2 ^ IntKind.i64.bits : Nat) : Int)
theorem byteF_in (n : Nat) : 0 ≤ byteF n ∧ byteF n ≤ 255 := by
  have h : n &&& 255 % 2 ^ IntKind.i64.bits ≤ 255 := Nat.le_trans Nat.and_le_right (by decide)
  unfold byteF
  rw [wrap_id (by omega) (by omega)]
  omega
@[simp] theorem byteF_eq (n : Nat) : IntKind.i64.wrap ((n &&& 255 % 2 ^ IntKind.i64.bits : Nat) : Int) = byteF n := rfl
theorem w183 (bs : List Int) (i : Nat) (h : Int) (hb : bs.length ≤ 2^40) (hi : i ≤ bs.length) : ∃ x : Nat × Int × Int, (x.1 ≤ bs.length ∧ 0 ≤ x.2.2 ∧ x.2.2 ≤ 255) ∧ Contract Try.prog true 183 [.own] [curT bs i h] [.i .i64 x.2.2] [some (curT bs x.1 x.2.1)] := by
  refine mk_contractE [some [(1, 0)]] Try.func183 (c := Try.f183.body.get!) (by kernel_rfl) k183 r183 (of_decide_eq_true rfl) ?_
  unfold c183; unfold curT; simp
  have hw : IntKind.i64.wrap ((i : Int) + 1) = i + 1 := wrap_id (by omega) (by omega)
  refine ⟨fun hlt => ?_, fun hge => ?_⟩
  · obtain ⟨b, hbb⟩ := get_some hlt
    simp [hbb, hw]
    generalize IntKind.i64.wrap (IntKind.i64.wrap (h * 6364136223846793005) + 1442695040888963407) = h2
    generalize byteF (IntKind.i64.wrap ↑((h2.fdiv (2 ^ min 33 IntKind.i64.bits) % 2 ^ IntKind.i64.bits).toNat ^^^ (h2.fdiv (2 ^ min 45 IntKind.i64.bits) % 2 ^ IntKind.i64.bits).toNat) % 2 ^ IntKind.i64.bits).toNat = x1
    obtain ⟨y, hy⟩ : ∃ y, y = byteF (IntKind.i64.wrap (x1 + IntKind.i64.wrap b) % 2 ^ IntKind.i64.bits).toNat := ⟨_, rfl⟩
    have hy2 := byteF_in (IntKind.i64.wrap (x1 + IntKind.i64.wrap b) % 2 ^ IntKind.i64.bits).toNat
    rw [← hy] at hy2 ⊢
    refine exK_of (i + 1, h2, y) ⟨hlt, hy2.1, hy2.2⟩ ?_
    simp
  · generalize IntKind.i64.wrap (IntKind.i64.wrap (h * 6364136223846793005) + 1442695040888963407) = h2
    have hy2 := byteF_in (IntKind.i64.wrap ↑((h2.fdiv (2 ^ min 33 IntKind.i64.bits) % 2 ^ IntKind.i64.bits).toNat ^^^ (h2.fdiv (2 ^ min 45 IntKind.i64.bits) % 2 ^ IntKind.i64.bits).toNat) % 2 ^ IntKind.i64.bits).toNat
    generalize byteF (IntKind.i64.wrap ↑((h2.fdiv (2 ^ min 33 IntKind.i64.bits) % 2 ^ IntKind.i64.bits).toNat ^^^ (h2.fdiv (2 ^ min 45 IntKind.i64.bits) % 2 ^ IntKind.i64.bits).toNat) % 2 ^ IntKind.i64.bits).toNat = y at *
    refine exK_of (i, h2, y) ⟨hi, hy2.1, hy2.2⟩ ?_
    simp
theorem tmod_in {a n : Int} (ha : 0 ≤ a) (hn : 0 < n) : 0 ≤ a.tmod n ∧ a.tmod n < n := ⟨Int.tmod_nonneg _ ha, Int.tmod_lt_of_pos _ hn⟩
set_option maxRecDepth 100000 in
theorem w142 (bs : List Int) (i : Nat) (h n : Int) (hb : bs.length ≤ 2^40) (hi : i ≤ bs.length) : ∃ x : Nat × Int × Int, (x.1 ≤ bs.length ∧ 0 ≤ x.2.2 ∧ (0 < n → x.2.2 < n)) ∧ Contract Try.prog true 142 [.own, .ro] [curT bs i h, .i .i64 n] [.i .i64 x.2.2] [some (curT bs x.1 x.2.1)] := by
  refine mk_contractE [some [(1, 0)]] Try.func142 (c := Try.f142.body.get!) (by kernel_rfl) k142 r142 (of_decide_eq_true rfl) ?_
  unfold c142; unfold curT; simp
  refine ⟨fun hn0 => ?_, fun hn0 => ?_⟩
  · refine exK_of (i, h, 0) ⟨hi, Int.le_refl 0, fun h2 => by omega⟩ ?_
    simp
  refine ⟨fun hn1 => ?_, fun hn1 => ?_⟩
  · obtain ⟨⟨i1, h1, y⟩, ⟨a1, a2, a3⟩, hC⟩ := w183 bs i h hb hi
    simp only at a1 a2 a3 hC
    unfold curT at hC
    refine callW_ms [.own] ?_
    simp
    refine callX_of hC (by simp) ?_
    have hm := tmod_in a2 (show 0 < n by omega)
    simp
    refine ⟨by omega, exK_of (i1, h1, y.tmod n) ⟨a1, hm.1, fun _ => hm.2⟩ ?_⟩
    simp
  · obtain ⟨⟨i1, h1, y1⟩, ⟨a1, b1, c1⟩, hC1⟩ := w183 bs i h hb hi
    simp only at a1 b1 c1 hC1
    unfold curT at hC1
    refine callW_ms [.own] ?_
    simp
    refine callX_of hC1 (by simp) ?_
    simp
    obtain ⟨⟨i2, h2, y2⟩, ⟨a2, b2, c2⟩, hC2⟩ := w183 bs i1 h1 hb a1
    simp only at a2 b2 c2 hC2
    unfold curT at hC2
    refine callW_ms [.own] ?_
    simp
    refine callX_of hC2 (by simp) ?_
    simp
    obtain ⟨⟨i3, h3, y3⟩, ⟨a3, b3, c3⟩, hC3⟩ := w183 bs i2 h2 hb a2
    simp only at a3 b3 c3 hC3
    unfold curT at hC3
    refine callW_ms [.own] ?_
    simp
    refine callX_of hC3 (by simp) ?_
    simp
    obtain ⟨⟨i4, h4, y4⟩, ⟨a4, b4, c4⟩, hC4⟩ := w183 bs i3 h3 hb a3
    simp only at a4 b4 c4 hC4
    unfold curT at hC4
    refine callW_ms [.own] ?_
    simp
    refine callX_of hC4 (by simp) ?_
    have w1 : IntKind.i64.wrap (y1 * 16777216) = y1 * 16777216 := wrap_id (by omega) (by omega)
    have w2 : IntKind.i64.wrap (y2 * 65536) = y2 * 65536 := wrap_id (by omega) (by omega)
    have w3 : IntKind.i64.wrap (y3 * 256) = y3 * 256 := wrap_id (by omega) (by omega)
    have w4 : IntKind.i64.wrap (y1 * 16777216 + y2 * 65536) = y1 * 16777216 + y2 * 65536 := wrap_id (by omega) (by omega)
    have w5 : IntKind.i64.wrap (y1 * 16777216 + y2 * 65536 + y3 * 256) = y1 * 16777216 + y2 * 65536 + y3 * 256 := wrap_id (by omega) (by omega)
    have w6 : IntKind.i64.wrap (y1 * 16777216 + y2 * 65536 + y3 * 256 + y4) = y1 * 16777216 + y2 * 65536 + y3 * 256 + y4 := wrap_id (by omega) (by omega)
    have hm := tmod_in (a := y1 * 16777216 + y2 * 65536 + y3 * 256 + y4) (by omega) (show 0 < n by omega)
    simp [w1, w2, w3, w4, w5, w6]
    refine ⟨by omega, exK_of (i4, h4, (y1 * 16777216 + y2 * 65536 + y3 * 256 + y4).tmod n) ⟨a4, hm.1, fun _ => hm.2⟩ ?_⟩
    simp
theorem w132 (bs : List Int) (i : Nat) (h n : Int) (hb : bs.length ≤ 2^40) (hi : i ≤ bs.length) : ∃ x : Nat × Int × Bool, (x.1 ≤ bs.length) ∧ Contract Try.prog true 132 [.own, .ro] [curT bs i h, .i .i64 n] [.b x.2.2] [some (curT bs x.1 x.2.1)] := by
  refine mk_contractE [some [(1, 0)]] Try.func132 (c := Try.f132.body.get!) (by kernel_rfl) k132 r132 (of_decide_eq_true rfl) ?_
  unfold c132; unfold curT; simp
  obtain ⟨⟨i1, h1, y⟩, ⟨a1, a2, a3⟩, hC⟩ := w142 bs i h n hb hi
  simp only at a1 a2 a3 hC
  unfold curT at hC
  refine callW_ms [.own, .ro] ?_
  simp
  refine callX_of hC (by simp) ?_
  simp
  refine exK_of (i1, h1, decide (y = 0)) a1 ?_
  simp
theorem w171 (bs L : List Int) (i : Nat) (h : Int) (hb : bs.length ≤ 2^40) (hi : i ≤ bs.length) (hL : 0 < L.length) (hL2 : L.length ≤ 256) : ∃ x : Nat × Int × Int, (x.1 ≤ bs.length ∧ x.2.2 ∈ L) ∧ Contract Try.prog true 171 [.own, .ro] [curT bs i h, .sl false 1 (L.map iT)] [.i .i64 x.2.2] [some (curT bs x.1 x.2.1)] := by
  refine mk_contractE [some [(1, 0)]] Try.func171 (c := Try.f171.body.get!) (by kernel_rfl) k171 r171 (of_decide_eq_true rfl) ?_
  unfold c171; unfold curT; simp
  obtain ⟨⟨i1, h1, y⟩, ⟨a1, a2, a3⟩, hC⟩ := w142 bs i h L.length hb hi
  simp only at a1 a2 a3 hC
  unfold curT at hC
  have hy := a3 (by omega)
  obtain ⟨z, hz⟩ : ∃ z, L[y.toNat]? = some z := get_some (by omega)
  refine callW_ms [.own, .ro] ?_
  simp
  refine callX_of hC (by simp) ?_
  simp [hz, a2]
  refine exK_of (i1, h1, z) ⟨a1, List.mem_of_getElem? hz⟩ ?_
  simp
theorem w71 (bs : List Int) (hb : bs.length ≤ 2^40) : ∃ h : Int, (True) ∧ Contract Try.prog true 71 [.ro] [.sl false 1 (bs.map uT)] [curT bs 0 h] [] := by
  refine mk_contractE [] Try.func71 (c := Try.f71.body.get!) (by kernel_rfl) k71 r71 (of_decide_eq_true rfl) ?_
  unfold c71; unfold curT; simp
  obtain ⟨N, hN⟩ : ∃ N, N = min bs.length 4000 := ⟨_, rfl⟩
  refine twp_for N (fun j s => ∃ h : Int, s.t 0 = .sl false 1 (bs.map uT) ∧ s.t 3 = .i .i64 h ∧ s.t 4 = .i .i64 j ∧ s.H = lk [(1, [])]) [] (by simp) ?_ ?_
  · simp
  · rintro j s hj ⟨h, q0, q3, q4, qH⟩
    rw [nf_of qH]
    simp [q0, q3, q4]
    have hw : IntKind.i64.wrap ((j : Int) + 1) = j + 1 := wrap_id (by omega) (by omega)
    cases hb1 : decide (j < bs.length)
    · have hge := of_decide_eq_false hb1
      simp [q0, q3, q4, hb1]
      refine exK_of h trivial ?_
      simp
    · have hlt := of_decide_eq_true hb1
      obtain ⟨b, hbb⟩ := get_some hlt
      simp [q0, q3, q4, hb1, hbb, hw]
      refine ⟨fun h4 => by omega, fun h4 => exK_of h trivial ?_⟩
      simp
end Go.Proofs.YtmedelmfkciblaaT
