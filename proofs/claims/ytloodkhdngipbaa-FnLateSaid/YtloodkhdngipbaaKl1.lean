/- Draws of streams; who comes late. -/
import Derived.Test.YtloodkhdngipbaaKr1
import Derived.Test.YtloodkhdngipbaaKh1
namespace Go.Proofs.YtloodkhdngipbaaT
set_option linter.unusedVariables false
set_option linter.unusedSimpArgs false
open Go

/- spec.l6Stream -/
def c130 : TCode := (.seq (.ops [⟨(some 4), 6, .box 3 (.c (.ag [(.i .i64 0), (.sl true 4 []), (.sl true 4 [])])), none, []⟩])
  (.seq (.ops [⟨(some 10), 12, .mv (.t 0), none, []⟩, ⟨(some 11), 13, .bslice 1 7 [(.i .i64 0)] [(0, (.c (.i .i64 0))), (1, (.c (.i .i64 0))), (2, (.c (.i .i64 3))), (3, (.c (.i .i64 17))), (4, (.c (.i .i64 1000))), (5, (.c (.i .i64 1000000000000))), (6, (.c (.i .i64 999999999999)))], none, []⟩, ⟨(some 12), 14, .call 87 [((.t 10), 3), ((.t 11), 0)], none, []⟩, ⟨(some 13), 15, .build [(.i .i64 0), (.sl true 4 []), (.sl true 4 [])] [(0, 1, (.t 12))], none, []⟩, ⟨(some 5), 7, .box 3 (.c (.ag [(.i .i64 0), (.sl true 4 []), (.sl true 4 [])])), none, []⟩, ⟨none, 1001005, .store 3 (.t 5) (.t 13), none, []⟩])
  (.seq (.ops [⟨(some 14), 16, .mv (.t 0), none, []⟩, ⟨(some 15), 17, .call 85 [((.t 14), 3), ((.c (.i .i64 5)), 0)], none, []⟩, ⟨(some 6), 8, .mv (.t 15), none, []⟩])
  (.seq (.seq (.ops [⟨(some 7), 9, .mv (.c (.i .i64 0)), none, []⟩])
  (.block 0 (.loop (.seq (.seq (.ops [⟨(some 16), 18, .mv (.t 7), none, []⟩, ⟨(some 17), 19, .mv (.t 6), none, []⟩, ⟨(some 18), 20, .bin .lss (.t 16) (.t 17), none, []⟩])
  (.cond (.t 18)
  .skip
  (.exit 0)))
  (.seq (.block 1 (.draw [⟨(some 21), 23, .faddr 1 1 (.t 5), none, []⟩, ⟨(some 22), 24, .load false 1 (.t 21), none, []⟩, ⟨(some 23), 25, .mv (.t 0), none, []⟩, ⟨(some 24), 26, .mv (.t 1), none, []⟩, ⟨(some 25), 27, .call 132 [((.t 23), 3), ((.t 24), 0)], none, [0, 1]⟩, ⟨(some 26), 28, .bslice 4 1 [(.i .i64 0), (.i .i64 0), (.f 0), (.f 0)] [(0, (.t 25))], none, [0, 1]⟩, ⟨(some 27), 29, .app 4 32 (.t 22) (.t 26), none, []⟩, ⟨(some 28), 30, .faddr 1 1 (.t 5), none, []⟩, ⟨none, 1006008, .store 1 (.t 28) (.t 27), none, []⟩]))
  (.ops [⟨(some 19), 21, .mv (.t 7), none, []⟩, ⟨(some 20), 22, .bin .add (.t 19) (.c (.i .i64 1)), none, []⟩, ⟨(some 7), 9, .mv (.t 20), none, []⟩]))))))
  (.seq (.ops [⟨(some 29), 31, .mv (.t 0), none, []⟩, ⟨(some 30), 32, .call 85 [((.t 29), 3), ((.c (.i .i64 5)), 0)], none, []⟩, ⟨(some 8), 10, .mv (.t 30), none, []⟩])
  (.seq (.seq (.ops [⟨(some 31), 33, .mv (.t 0), none, []⟩, ⟨(some 32), 34, .call 86 [((.t 31), 3), ((.c (.i .i64 12)), 0)], none, []⟩])
  (.cond (.t 32)
  (.ops [⟨(some 33), 35, .mv (.t 0), none, []⟩, ⟨(some 34), 36, .call 85 [((.t 33), 3), ((.c (.i .i64 2)), 0)], none, []⟩, ⟨(some 35), 37, .bin .sub (.c (.i .i64 200)) (.t 34), none, []⟩, ⟨(some 8), 10, .mv (.t 35), none, []⟩])
  .skip))
  (.seq (.seq (.ops [⟨(some 9), 11, .mv (.c (.i .i64 0)), none, []⟩])
  (.block 2 (.loop (.seq (.seq (.ops [⟨(some 36), 38, .mv (.t 9), none, []⟩, ⟨(some 37), 39, .mv (.t 8), none, []⟩, ⟨(some 38), 40, .bin .lss (.t 36) (.t 37), none, []⟩])
  (.cond (.t 38)
  .skip
  (.exit 2)))
  (.seq (.block 3 (.draw [⟨(some 41), 43, .faddr 2 1 (.t 5), none, []⟩, ⟨(some 42), 44, .load false 1 (.t 41), none, []⟩, ⟨(some 43), 45, .mv (.t 0), none, []⟩, ⟨(some 44), 46, .mv (.t 1), none, []⟩, ⟨(some 45), 47, .call 132 [((.t 43), 3), ((.t 44), 0)], none, [0, 1]⟩, ⟨(some 46), 48, .bslice 4 1 [(.i .i64 0), (.i .i64 0), (.f 0), (.f 0)] [(0, (.t 45))], none, [0, 1]⟩, ⟨(some 47), 49, .app 4 32 (.t 42) (.t 46), none, []⟩, ⟨(some 48), 50, .faddr 2 1 (.t 5), none, []⟩, ⟨none, 1013008, .store 1 (.t 48) (.t 47), none, []⟩]))
  (.ops [⟨(some 39), 41, .mv (.t 9), none, []⟩, ⟨(some 40), 42, .bin .add (.t 39) (.c (.i .i64 1)), none, []⟩, ⟨(some 9), 11, .mv (.t 40), none, []⟩]))))))
  (.seq (.ops [⟨(some 49), 51, .load true 3 (.t 5), none, []⟩, ⟨none, 1014001, .store 3 (.t 4) (.t 49), none, []⟩])
  .ret))))))))
theorem k130 : compCode Try.prog Try.f130.ntmps Try.f130.body.get! = some c130 := by kernel_rfl
theorem r130 : resTmps Try.prog Try.f130.results.toList = some [.cell 4 true 3] := by kernel_rfl

theorem valsF_nil : valsF [] := fun v h => by cases h
theorem valsF_snoc {l : List ValP} {v : ValP} (h : valsF l) (hv : valOkF v) : valsF (l ++ [v]) := fun x hx => by
  rcases List.mem_append.1 hx with hx | hx
  · exact h x hx
  · rw [List.mem_singleton.1 hx]; exact hv
def strG (k : Nat) (s : StrP) : Prop := strB k s ∧ valsF s.2.1 ∧ valsF s.2.2
set_option maxHeartbeats 1000000 in
set_option maxRecDepth 100000 in
theorem w130 (bs : List Int) (i0 : Nat) (h0 kd : Int) (hb : bs.length ≤ 2^40) (hi0 : i0 ≤ bs.length) : ∃ x : Nat × Int × StrP, (x.1 ≤ bs.length ∧ strG 300 x.2.2) ∧ Contract Try.prog true 130 [.own, .ro] [curT bs i0 h0, .i .i64 kd] [strO x.2.2] [some (curT bs x.1 x.2.1)] := by
  refine mk_contractE [some [(1, 0)]] Try.func130 (c := Try.f130.body.get!) (by kernel_rfl) k130 r130 (of_decide_eq_true rfl) ?_
  unfold c130; unfold curT strO; simp
  obtain ⟨⟨i1, h1, y1⟩, ⟨a1, b1⟩, hC1⟩ := w87 bs [0, 0, 3, 17, 1000, 1000000000000, 999999999999] i0 h0 hb hi0 (by simp) (by simp)
  simp only at a1 b1 hC1
  unfold curT at hC1
  refine callW_ms [.own, .own] ?_
  simp
  refine callX_of hC1 (by simp) ?_
  simp
  obtain ⟨⟨i2, h2, y2⟩, ⟨a2, b2, c2⟩, hC2⟩ := w85 bs i1 h1 5 hb a1
  simp only at a2 b2 c2 hC2
  unfold curT at hC2
  refine callW_ms [.own, .ro] ?_
  simp
  refine callX_of hC2 (by simp) ?_
  simp
  have n2 := c2 (by omega)
  obtain ⟨n, hn⟩ : ∃ n : Nat, y2 = n := ⟨y2.toNat, by omega⟩
  subst hn
  refine twp_for n (fun j s => ∃ (i : Nat) (h : Int) (L : List ValP), i ≤ bs.length ∧ L.length ≤ j ∧ valsF L ∧ s.t 0 = .pt [(1, 0)] 0 0 ∧ s.t 1 = .i .i64 kd ∧ s.t 4 = .pt [(6, 0)] 0 0 ∧ s.t 5 = .pt [(7, 0)] 0 0 ∧ s.t 6 = .i .i64 n ∧ s.t 7 = .i .i64 j ∧ s.H = lk [(1, [.po true [.sl false 1 (bs.map uT), .i .i64 i, .i .i64 h]]), (6, [.po true [.i .i64 0, .sl true 4 [], .sl true 4 []]]), (7, [.po true [.i .i64 y1, .sl true 4 (L.map vT), .sl true 4 []]])]) [13, 28, 29] (by simp) ?_ ?_
  · refine ⟨i2, h2, [], a2, ?_⟩
    simp [valsF_nil]
  · rintro j s hj ⟨i, h, L, hi, hL, hv, q0, q1, q4, q5, q6, q7, qH⟩
    rw [nf_of qH]
    simp [q0, q1, q4, q5, q6, q7]
    refine ⟨fun hlt => ?_, fun hge => ?_⟩
    · have hw : IntKind.i64.wrap ((j : Int) + 1) = j + 1 := wrap_id (by omega) (by omega)
      obtain ⟨⟨i3, h3, v3⟩, ⟨a3, b3⟩, hC3⟩ := w132 bs i h (kd) hb hi
      simp only at a3 b3 hC3
      unfold curT valV at hC3
      refine callW_ms [.own, .ro] ?_
      simp
      refine callX_of hC3 (by simp) ?_
      simp [q0, q1, q4, q5, q6, q7, hw]
      exact ⟨by omega, hlt, i3, a3, h3, L ++ [v3], by simp; omega, valsF_snoc hv b3, by simp⟩
    · obtain ⟨⟨i3, h3, y3⟩, ⟨a3, b3, c3⟩, hC3⟩ := w85 bs i h 5 hb hi
      simp only at a3 b3 c3 hC3
      unfold curT at hC3
      refine callW_ms [.own, .ro] ?_
      simp
      refine callX_of hC3 (by simp) ?_
      simp
      simp [q0, q1, q4, q5]
      obtain ⟨⟨i4, h4, y4⟩, a4, hC4⟩ := w86 bs i3 h3 12 hb a3
      simp only at a4 hC4
      unfold curT at hC4
      refine callW_ms [.own, .ro] ?_
      simp
      refine callX_of hC4 (by simp) ?_
      have n3 := c3 (by omega)
      obtain ⟨m, hm⟩ : ∃ m : Nat, y3 = m := ⟨y3.toNat, by omega⟩
      subst hm
      cases y4 with
      | false =>
        simp [q0, q1, q4, q5]
        refine twp_for m (fun j s => ∃ (i : Nat) (h : Int) (M : List ValP), i ≤ bs.length ∧ M.length ≤ j ∧ valsF M ∧ s.t 0 = .pt [(1, 0)] 0 0 ∧ s.t 1 = .i .i64 kd ∧ s.t 4 = .pt [(6, 0)] 0 0 ∧ s.t 5 = .pt [(7, 0)] 0 0 ∧ s.t 8 = .i .i64 m ∧ s.t 9 = .i .i64 j ∧ s.H = lk [(1, [.po true [.sl false 1 (bs.map uT), .i .i64 i, .i .i64 h]]), (6, [.po true [.i .i64 0, .sl true 4 [], .sl true 4 []]]), (7, [.po true [.i .i64 y1, .sl true 4 (L.map vT), .sl true 4 (M.map vT)]])]) [48, 49] (by simp) ?_ ?_
        · refine ⟨i4, h4, [], a4, ?_⟩
          simp [valsF_nil, q0, q1, q4, q5]
        · rintro j2 s2 hj2 ⟨i, h, M, hi, hM, hvm, q0, q1, q4, q5, q8, q9, qH2⟩
          rw [nf_of qH2]
          simp [q0, q1, q4, q5, q8, q9]
          refine ⟨fun hlt => ?_, fun hge => ?_⟩
          · have hw : IntKind.i64.wrap ((j2 : Int) + 1) = j2 + 1 := wrap_id (by omega) (by omega)
            obtain ⟨⟨i6, h6, v6⟩, ⟨a6, b6⟩, hC6⟩ := w132 bs i h (kd) hb hi
            simp only at a6 b6 hC6
            unfold curT valV at hC6
            refine callW_ms [.own, .ro] ?_
            simp
            refine callX_of hC6 (by simp) ?_
            simp [q0, q1, q4, q5, q8, q9, hw]
            exact ⟨by omega, hlt, i6, a6, h6, M ++ [v6], by simp; omega, valsF_snoc hvm b6, by simp⟩
          · refine exK_of (i, h, (y1, L, M)) ⟨hi, ⟨by simp only; omega, by simp only; omega⟩, hv, hvm⟩ ?_
            simp [q0, q1, q4, q5]
      | true =>
        simp [q0, q1, q4, q5]
        obtain ⟨⟨i5, h5, y5⟩, ⟨a5, b5, c5⟩, hC5⟩ := w85 bs i4 h4 2 hb a4
        simp only at a5 b5 c5 hC5
        unfold curT at hC5
        refine callW_ms [.own, .ro] ?_
        simp
        refine callX_of hC5 (by simp) ?_
        simp
        have n5 := c5 (by omega)
        have w5 : IntKind.i64.wrap (200 - y5) = 200 - y5 := wrap_id (by omega) (by omega)
        obtain ⟨m5, hm5⟩ : ∃ m : Nat, 200 - y5 = m := ⟨(200 - y5).toNat, by omega⟩
        rw [hm5] at w5
        simp [w5, hm5]
        refine twp_for m5 (fun j s => ∃ (i : Nat) (h : Int) (M : List ValP), i ≤ bs.length ∧ M.length ≤ j ∧ valsF M ∧ s.t 0 = .pt [(1, 0)] 0 0 ∧ s.t 1 = .i .i64 kd ∧ s.t 4 = .pt [(6, 0)] 0 0 ∧ s.t 5 = .pt [(7, 0)] 0 0 ∧ s.t 8 = .i .i64 m5 ∧ s.t 9 = .i .i64 j ∧ s.H = lk [(1, [.po true [.sl false 1 (bs.map uT), .i .i64 i, .i .i64 h]]), (6, [.po true [.i .i64 0, .sl true 4 [], .sl true 4 []]]), (7, [.po true [.i .i64 y1, .sl true 4 (L.map vT), .sl true 4 (M.map vT)]])]) [48, 49] (by simp) ?_ ?_
        · refine ⟨i5, h5, [], a5, ?_⟩
          simp [valsF_nil, q0, q1, q4, q5]
        · rintro j2 s2 hj2 ⟨i, h, M, hi, hM, hvm, q0, q1, q4, q5, q8, q9, qH2⟩
          rw [nf_of qH2]
          simp [q0, q1, q4, q5, q8, q9]
          refine ⟨fun hlt => ?_, fun hge => ?_⟩
          · have hw : IntKind.i64.wrap ((j2 : Int) + 1) = j2 + 1 := wrap_id (by omega) (by omega)
            obtain ⟨⟨i6, h6, v6⟩, ⟨a6, b6⟩, hC6⟩ := w132 bs i h (kd) hb hi
            simp only at a6 b6 hC6
            unfold curT valV at hC6
            refine callW_ms [.own, .ro] ?_
            simp
            refine callX_of hC6 (by simp) ?_
            simp [q0, q1, q4, q5, q8, q9, hw]
            exact ⟨by omega, hlt, i6, a6, h6, M ++ [v6], by simp; omega, valsF_snoc hvm b6, by simp⟩
          · refine exK_of (i, h, (y1, L, M)) ⟨hi, ⟨by simp only; omega, by simp only; omega⟩, hv, hvm⟩ ?_
            simp [q0, q1, q4, q5]
end Go.Proofs.YtloodkhdngipbaaT
