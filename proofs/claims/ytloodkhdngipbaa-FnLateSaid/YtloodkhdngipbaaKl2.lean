/- Draws of streams, spoilt; who comes late. -/
import Derived.Test.YtloodkhdngipbaaKl1
namespace Go.Proofs.YtloodkhdngipbaaT
set_option linter.unusedVariables false
set_option linter.unusedSimpArgs false
open Go

/- spec.l6Some -/
def c84 : TCode := (.seq (.ops [⟨(some 2), 4, .mv (.c (.i .i64 0)), none, []⟩, ⟨(some 3), 5, .box 3 (.c (.ag [(.i .i64 0), (.sl true 4 []), (.sl true 4 [])])), none, []⟩])
  (.seq (.ops [⟨(some 6), 8, .mv (.t 0), none, []⟩, ⟨(some 7), 9, .call 85 [((.t 6), 3), ((.c (.i .i64 4)), 0)], none, []⟩, ⟨(some 8), 10, .bin .add (.c (.i .i64 1)) (.t 7), none, []⟩, ⟨(some 4), 6, .mv (.t 8), none, []⟩])
  (.seq (.ops [⟨(some 9), 11, .mv (.t 0), none, []⟩, ⟨(some 10), 12, .mv (.t 4), none, []⟩, ⟨(some 11), 13, .call 130 [((.t 9), 3), ((.t 10), 0)], none, []⟩, ⟨(some 5), 7, .box 3 (.c (.ag [(.i .i64 0), (.sl true 4 []), (.sl true 4 [])])), none, []⟩, ⟨none, 1002004, .store 3 (.t 5) (.t 11), none, []⟩])
  (.seq (.seq (.ops [⟨(some 12), 14, .mv (.t 0), none, []⟩, ⟨(some 13), 15, .call 86 [((.t 12), 3), ((.c (.i .i64 7)), 0)], none, []⟩])
  (.cond (.t 13)
  (.seq (.ops [⟨(some 14), 16, .mv (.t 0), none, []⟩, ⟨(some 15), 17, .call 85 [((.t 14), 3), ((.c (.i .i64 4)), 0)], none, []⟩])
  (.block 0 (.seq (.ops [⟨(some 20), 22, .bin .eql (.t 15) (.c (.i .i64 0)), none, []⟩, ⟨(some 19), 21, .mv (.t 20), none, []⟩])
  (.cond (.t 19)
  (.ops [⟨(some 21), 23, .mv (.t 0), none, []⟩, ⟨(some 22), 24, .bslice 1 3 [(.i .i64 0)] [(0, (.c (.i .i64 (-1)))), (1, (.c (.i .i64 1000000000001))), (2, (.c (.i .i64 9223372036854775807)))], none, []⟩, ⟨(some 23), 25, .call 87 [((.t 21), 3), ((.t 22), 0)], none, []⟩, ⟨(some 24), 26, .faddr 0 1 (.t 5), none, []⟩, ⟨none, 1007004, .store 1 (.t 24) (.t 23), none, []⟩])
  (.seq (.ops [⟨(some 26), 28, .bin .eql (.t 15) (.c (.i .i64 1)), none, []⟩, ⟨(some 25), 27, .mv (.t 26), none, []⟩])
  (.cond (.t 25)
  (.draw [⟨(some 27), 29, .faddr 1 1 (.t 5), none, []⟩, ⟨(some 28), 30, .load false 1 (.t 27), none, []⟩, ⟨(some 29), 31, .mv (.t 0), none, []⟩, ⟨(some 30), 32, .call 131 [((.t 29), 3)], none, [0, 1]⟩, ⟨(some 31), 33, .bslice 4 1 [(.i .i64 0), (.i .i64 0), (.f 0), (.f 0)] [(0, (.t 30))], none, [0, 1]⟩, ⟨(some 32), 34, .app 4 32 (.t 28) (.t 31), none, []⟩, ⟨(some 33), 35, .faddr 1 1 (.t 5), none, []⟩, ⟨none, 1009007, .store 1 (.t 33) (.t 32), none, []⟩])
  (.seq (.ops [⟨(some 35), 37, .bin .eql (.t 15) (.c (.i .i64 2)), none, []⟩, ⟨(some 34), 36, .mv (.t 35), none, []⟩])
  (.cond (.t 34)
  (.block 1 (.loop (.seq (.seq (.ops [⟨(some 36), 38, .faddr 1 1 (.t 5), none, []⟩, ⟨(some 37), 39, .load false 1 (.t 36), none, []⟩, ⟨(some 38), 40, .len false (.t 37), none, []⟩, ⟨(some 39), 41, .bin .leq (.t 38) (.c (.i .i64 200)), none, []⟩])
  (.cond (.t 39)
  .skip
  (.exit 1)))
  (.block 2 (.draw [⟨(some 40), 42, .faddr 1 1 (.t 5), none, []⟩, ⟨(some 41), 43, .load false 1 (.t 40), none, []⟩, ⟨(some 42), 44, .mv (.t 0), none, []⟩, ⟨(some 43), 45, .mv (.t 4), none, []⟩, ⟨(some 44), 46, .call 132 [((.t 42), 3), ((.t 43), 0)], none, [0, 1]⟩, ⟨(some 45), 47, .bslice 4 1 [(.i .i64 0), (.i .i64 0), (.f 0), (.f 0)] [(0, (.t 44))], none, [0, 1]⟩, ⟨(some 46), 48, .app 4 32 (.t 41) (.t 45), none, []⟩, ⟨(some 47), 49, .faddr 1 1 (.t 5), none, []⟩, ⟨none, 1012008, .store 1 (.t 47) (.t 46), none, []⟩])))))
  (.ops [⟨(some 16), 18, .mv (.t 0), none, []⟩, ⟨(some 17), 19, .call 85 [((.t 16), 3), ((.c (.i .i64 7)), 0)], none, []⟩, ⟨(some 18), 20, .bin .sub (.t 17) (.c (.i .i64 1)), none, []⟩, ⟨(some 4), 6, .mv (.t 18), none, []⟩])))))))))
  .skip))
  (.seq (.draw [⟨(some 48), 50, .mv (.t 4), none, []⟩, ⟨(some 49), 51, .load true 3 (.t 5), none, []⟩, ⟨(some 2), 4, .mv (.t 48), none, []⟩, ⟨none, 1013003, .store 3 (.t 3) (.t 49), none, []⟩])
  .ret)))))
theorem k84 : compCode Try.prog Try.f84.ntmps Try.f84.body.get! = some c84 := by kernel_rfl
theorem r84 : resTmps Try.prog Try.f84.results.toList = some [.tmp 2, .cell 3 true 3] := by kernel_rfl
/- spec.DrawUnread -/
def c35 : TCode := (.seq (.ops [⟨(some 2), 4, .box 3 (.c (.ag [(.i .i64 0), (.sl true 4 []), (.sl true 4 [])])), none, []⟩, ⟨(some 3), 5, .mv (.c (.i .i64 0)), none, []⟩])
  (.seq (.ops [⟨(some 8), 10, .mv (.t 0), none, []⟩, ⟨(some 9), 11, .call 83 [((.t 8), 0)], none, []⟩, ⟨(some 4), 6, .mv (.t 9), none, []⟩])
  (.seq (.ops [⟨(some 11), 13, .mv (.t 4), none, []⟩, ⟨(some 12), 14, .call 84 [((.t 11), 3)], none, []⟩, ⟨(some 10), 12, .mv (.t 12), none, []⟩, ⟨(some 13), 15, .ext 0 (.t 10), none, []⟩, ⟨(some 14), 16, .ext 1 (.t 10), none, []⟩, ⟨(some 6), 8, .box 3 (.c (.ag [(.i .i64 0), (.sl true 4 []), (.sl true 4 [])])), none, []⟩, ⟨(some 5), 7, .mv (.t 13), none, []⟩, ⟨none, 1002007, .store 3 (.t 6) (.t 14), none, []⟩])
  (.seq (.draw [⟨(some 15), 17, .faddr 0 1 (.t 6), none, []⟩, ⟨(some 16), 18, .load false 1 (.t 15), none, []⟩, ⟨(some 17), 19, .mv (.t 4), none, []⟩, ⟨(some 18), 20, .call 85 [((.t 17), 3), ((.c (.i .i64 9)), 0)], none, [0, 1]⟩, ⟨(some 19), 21, .bin .add (.t 16) (.t 18), none, []⟩, ⟨(some 20), 22, .bin .sub (.t 19) (.c (.i .i64 3)), none, []⟩, ⟨(some 7), 9, .mv (.t 20), none, []⟩])
  (.seq (.seq (.ops [⟨(some 21), 23, .mv (.t 4), none, []⟩, ⟨(some 22), 24, .call 86 [((.t 21), 3), ((.c (.i .i64 6)), 0)], none, []⟩])
  (.cond (.t 22)
  (.ops [⟨(some 23), 25, .mv (.t 4), none, []⟩, ⟨(some 24), 26, .bslice 1 4 [(.i .i64 0)] [(0, (.c (.i .i64 (-5)))), (1, (.c (.i .i64 0))), (2, (.c (.i .i64 9223372036854775807))), (3, (.c (.i .i64 (-9223372036854775808))))], none, []⟩, ⟨(some 25), 27, .call 87 [((.t 23), 3), ((.t 24), 0)], none, []⟩, ⟨(some 7), 9, .mv (.t 25), none, []⟩])
  .skip))
  (.seq (.ops [⟨(some 26), 28, .load true 3 (.t 6), none, []⟩, ⟨(some 27), 29, .mv (.t 7), none, []⟩, ⟨none, 1006002, .store 3 (.t 2) (.t 26), none, []⟩, ⟨(some 3), 5, .mv (.t 27), none, []⟩])
  .ret))))))
theorem k35 : compCode Try.prog Try.f35.ntmps Try.f35.body.get! = some c35 := by kernel_rfl
theorem r35 : resTmps Try.prog Try.f35.results.toList = some [.cell 2 true 3, .tmp 3] := by kernel_rfl
/- laws.FnLate -/
def c8 : TCode := (.seq (.ops [⟨(some 2), 4, .mv (.c (.b false)), none, []⟩])
  (.seq (.seq (.ops [⟨(some 11), 13, .mv (.t 0), none, []⟩, ⟨(some 12), 14, .call 32 [((.t 11), 0)], none, []⟩])
  (.cond (.t 12)
  (.seq (.ops [⟨(some 2), 4, .mv (.c (.b true)), none, []⟩])
  .ret)
  .skip))
  (.seq (.ops [⟨(some 14), 16, .mv (.t 0), none, []⟩, ⟨(some 15), 17, .call 35 [((.t 14), 0)], none, []⟩, ⟨(some 13), 15, .mv (.t 15), none, []⟩, ⟨(some 16), 18, .ext 0 (.t 13), none, []⟩, ⟨(some 17), 19, .ext 1 (.t 13), none, []⟩, ⟨(some 3), 5, .box 3 (.c (.ag [(.i .i64 0), (.sl true 4 []), (.sl true 4 [])])), none, []⟩, ⟨none, 1003006, .store 3 (.t 3) (.t 16), none, []⟩, ⟨(some 4), 6, .mv (.t 17), none, []⟩])
  (.seq (.ops [⟨(some 19), 21, .load true 3 (.t 3), none, []⟩, ⟨(some 20), 22, .mv (.t 4), none, []⟩, ⟨(some 21), 23, .call 25 [((.t 19), 0), ((.t 20), 0)], none, []⟩, ⟨(some 18), 20, .mv (.t 21), none, []⟩, ⟨(some 22), 24, .ext 0 (.t 18), none, []⟩, ⟨(some 23), 25, .ext 1 (.t 18), none, []⟩, ⟨(some 24), 26, .ext 2 (.t 18), none, []⟩, ⟨(some 5), 7, .mv (.t 22), none, []⟩, ⟨(some 6), 8, .mv (.t 23), none, []⟩, ⟨(some 7), 9, .mv (.t 24), none, []⟩])
  (.seq (.ops [⟨(some 26), 28, .load true 3 (.t 3), none, []⟩, ⟨(some 27), 29, .mv (.t 4), none, []⟩, ⟨(some 28), 30, .call 24 [((.t 26), 0), ((.t 27), 0)], none, []⟩, ⟨(some 25), 27, .mv (.t 28), none, []⟩, ⟨(some 29), 31, .ext 0 (.t 25), none, []⟩, ⟨(some 30), 32, .ext 1 (.t 25), none, []⟩, ⟨(some 31), 33, .ext 2 (.t 25), none, []⟩, ⟨(some 8), 10, .mv (.t 29), none, []⟩, ⟨(some 9), 11, .mv (.t 30), none, []⟩, ⟨(some 10), 12, .mv (.t 31), none, []⟩])
  (.seq (.seq (.ops [⟨(some 32), 34, .mv (.t 6), none, []⟩, ⟨(some 33), 35, .mv (.t 9), none, []⟩, ⟨(some 34), 36, .bin .neq (.t 32) (.t 33), none, []⟩, ⟨(some 35), 37, .mv (.t 34), none, []⟩, ⟨(some 36), 38, .mv (.t 7), (some (35, false)), []⟩, ⟨(some 37), 39, .mv (.t 10), (some (35, false)), []⟩, ⟨(some 38), 40, .bin .neq (.t 36) (.t 37), (some (35, false)), []⟩, ⟨(some 39), 41, .pick (.t 35) (.c (.b true)) (.t 38), none, []⟩, ⟨(some 40), 42, .mv (.t 39), none, []⟩, ⟨(some 41), 43, .mv (.t 5), (some (40, false)), []⟩, ⟨(some 42), 44, .mv (.t 8), (some (40, false)), []⟩, ⟨(some 43), 45, .call 34 [((.t 41), 0), ((.t 42), 0)], (some (40, false)), []⟩, ⟨(some 44), 46, .un .not (.t 43), (some (40, false)), []⟩, ⟨(some 45), 47, .pick (.t 40) (.c (.b true)) (.t 44), none, []⟩])
  (.cond (.t 45)
  (.seq (.ops [⟨(some 2), 4, .mv (.c (.b false)), none, []⟩])
  .ret)
  .skip))
  (.seq (.seq (.ops [⟨(some 46), 48, .faddr 0 1 (.t 3), none, []⟩, ⟨(some 47), 49, .load false 1 (.t 46), none, []⟩, ⟨(some 48), 50, .bin .lss (.t 47) (.c (.i .i64 0)), none, []⟩, ⟨(some 49), 51, .mv (.t 48), none, []⟩, ⟨(some 50), 52, .faddr 0 1 (.t 3), (some (49, false)), []⟩, ⟨(some 51), 53, .load false 1 (.t 50), (some (49, false)), []⟩, ⟨(some 52), 54, .bin .gtr (.t 51) (.c (.i .i64 1000000000000)), (some (49, false)), []⟩, ⟨(some 53), 55, .pick (.t 49) (.c (.b true)) (.t 52), none, []⟩, ⟨(some 54), 56, .mv (.t 53), none, []⟩, ⟨(some 55), 57, .mv (.t 4), (some (54, false)), []⟩, ⟨(some 56), 58, .bin .lss (.t 55) (.c (.i .i64 0)), (some (54, false)), []⟩, ⟨(some 57), 59, .pick (.t 54) (.c (.b true)) (.t 56), none, []⟩, ⟨(some 58), 60, .mv (.t 57), none, []⟩, ⟨(some 59), 61, .mv (.t 4), (some (58, false)), []⟩, ⟨(some 60), 62, .mv (.t 6), (some (58, false)), []⟩, ⟨(some 61), 63, .bin .gtr (.t 59) (.t 60), (some (58, false)), []⟩, ⟨(some 62), 64, .pick (.t 58) (.c (.b true)) (.t 61), none, []⟩])
  (.cond (.t 62)
  (.seq (.ops [⟨(some 63), 65, .mv (.t 5), none, []⟩, ⟨(some 64), 66, .len false (.t 63), none, []⟩, ⟨(some 65), 67, .faddr 1 1 (.t 3), none, []⟩, ⟨(some 66), 68, .load false 1 (.t 65), none, []⟩, ⟨(some 67), 69, .len false (.t 66), none, []⟩, ⟨(some 68), 70, .faddr 2 1 (.t 3), none, []⟩, ⟨(some 69), 71, .load false 1 (.t 68), none, []⟩, ⟨(some 70), 72, .len false (.t 69), none, []⟩, ⟨(some 71), 73, .bin .add (.t 67) (.t 70), none, []⟩, ⟨(some 72), 74, .bin .leq (.t 64) (.t 71), none, []⟩, ⟨(some 2), 4, .mv (.t 72), none, []⟩])
  .ret)
  .skip))
  (.seq (.ops [⟨(some 73), 75, .mv (.t 4), none, []⟩, ⟨(some 74), 76, .mv (.t 7), none, []⟩, ⟨(some 75), 77, .bin .add (.t 73) (.t 74), none, []⟩, ⟨(some 76), 78, .mv (.t 5), none, []⟩, ⟨(some 77), 79, .len false (.t 76), none, []⟩, ⟨(some 78), 80, .bin .add (.t 75) (.t 77), none, []⟩, ⟨(some 79), 81, .mv (.t 6), none, []⟩, ⟨(some 80), 82, .bin .eql (.t 78) (.t 79), none, []⟩, ⟨(some 2), 4, .mv (.t 80), none, []⟩])
  .ret))))))))
theorem k8 : compCode Try.prog Try.f8.ntmps Try.f8.body.get! = some c8 := by kernel_rfl
theorem r8 : resTmps Try.prog Try.f8.results.toList = some [.tmp 2] := by kernel_rfl

set_option maxHeartbeats 1000000 in
set_option maxRecDepth 100000 in
theorem w84 (bs : List Int) (i0 : Nat) (h0 : Int) (hb : bs.length ≤ 2^40) (hi0 : i0 ≤ bs.length) : ∃ x : Nat × Int × Int × StrP, (x.1 ≤ bs.length ∧ strG 600 x.2.2.2) ∧ Contract Try.prog true 84 [.own] [curT bs i0 h0] [.i .i64 x.2.2.1, strO x.2.2.2] [some (curT bs x.1 x.2.1)] := by
  refine mk_contractE [some [(1, 0)]] Try.func84 (c := Try.f84.body.get!) (by kernel_rfl) k84 r84 (of_decide_eq_true rfl) ?_
  unfold c84; unfold curT strO; simp
  obtain ⟨⟨i1, h1, y1⟩, ⟨a1, b1, c1⟩, hC1⟩ := w85 bs i0 h0 4 hb hi0
  simp only at a1 b1 c1 hC1
  unfold curT at hC1
  refine callW_ms [.own, .ro] ?_
  simp
  refine callX_of hC1 (by simp) ?_
  simp
  obtain ⟨⟨i2, h2, ⟨f2, o2, n2⟩⟩, ⟨a2, ⟨⟨b2, c2⟩, d2, e2⟩⟩, hC2⟩ := w130 bs i1 h1 (IntKind.i64.wrap (1 + y1)) hb a1
  simp only at a2 b2 c2 d2 e2 hC2
  unfold curT strO at hC2
  refine callW_ms [.own, .ro] ?_
  simp
  refine callX_of hC2 (by simp) ?_
  simp
  obtain ⟨⟨i3, h3, y3⟩, a3, hC3⟩ := w86 bs i2 h2 7 hb a2
  simp only at a3 hC3
  unfold curT at hC3
  refine callW_ms [.own, .ro] ?_
  simp
  refine callX_of hC3 (by simp) ?_
  cases y3 with
  | false =>
    simp
    refine exK_of (i3, h3, IntKind.i64.wrap (1 + y1), (f2, o2, n2)) ⟨a3, ⟨by simp only; omega, by simp only; omega⟩, d2, e2⟩ ?_
    simp
  | true =>
    simp
    obtain ⟨⟨i4, h4, y4⟩, ⟨a4, b4, c4⟩, hC4⟩ := w85 bs i3 h3 4 hb a3
    simp only at a4 b4 c4 hC4
    unfold curT at hC4
    refine callW_ms [.own, .ro] ?_
    simp
    refine callX_of hC4 (by simp) ?_
    simp
    refine ⟨fun h => ?_, fun h => ?_⟩
    · obtain ⟨⟨i5, h5, y5⟩, ⟨a5, b5⟩, hC5⟩ := w87 bs [-1, 1000000000001, 9223372036854775807] i4 h4 hb a4 (by simp) (by simp)
      simp only at a5 b5 hC5
      unfold curT at hC5
      refine callW_ms [.own, .own] ?_
      simp
      refine callX_of hC5 (by simp) ?_
      simp
      refine exK_of (i5, h5, IntKind.i64.wrap (1 + y1), (y5, o2, n2)) ⟨a5, ⟨by simp only; omega, by simp only; omega⟩, d2, e2⟩ ?_
      simp
    refine ⟨fun h => ?_, fun h => ?_⟩
    · obtain ⟨⟨i5, h5, v5⟩, ⟨a5, b5⟩, hC5⟩ := w131 bs i4 h4 hb a4
      simp only at a5 b5 hC5
      unfold curT valV at hC5
      refine callW_ms [.own] ?_
      simp
      refine callX_of hC5 (by simp) ?_
      simp
      refine ⟨by omega, ?_⟩
      refine exK_of (i5, h5, IntKind.i64.wrap (1 + y1), (f2, o2 ++ [v5], n2)) ⟨a5, ⟨by simp; omega, by simp only; omega⟩, valsF_snoc d2 b5, e2⟩ ?_
      simp
    refine ⟨fun h => ?_, fun h => ?_⟩
    · refine twp_loop (fun n s => ∃ (i : Nat) (h : Int) (L : List ValP), i ≤ bs.length ∧ L.length ≤ 500 ∧ n = 201 - L.length ∧ valsF L ∧ s.t 0 = .pt [(1, 0)] 0 0 ∧ s.t 3 = .pt [(5, 0)] 0 0 ∧ s.t 4 = .i .i64 (IntKind.i64.wrap (1 + y1)) ∧ s.t 5 = .pt [(7, 0)] 0 0 ∧ s.H = lk [(1, [.po true [.sl false 1 (bs.map uT), .i .i64 i, .i .i64 h]]), (5, [.po true [.i .i64 0, .sl true 4 [], .sl true 4 []]]), (7, [.po true [.i .i64 f2, .sl true 4 (L.map vT), .sl true 4 (n2.map vT)]])]) [13, 47, 48] (by simp) (201 - o2.length) ?_ ?_
      · refine ⟨i4, h4, o2, a4, by omega, rfl, d2, ?_⟩
        simp
      · rintro n s ⟨i, h, L, hi, hL, rfl, hv, q0, q3, q4, q5, qH⟩
        rw [nf_of qH]
        simp [q0, q3, q4, q5]
        refine ⟨fun hlt => ?_, fun hge => ?_⟩
        · obtain ⟨⟨i6, h6, v6⟩, ⟨a6, b6⟩, hC6⟩ := w132 bs i h (IntKind.i64.wrap (1 + y1)) hb hi
          simp only at a6 b6 hC6
          unfold curT valV at hC6
          refine callW_ms [.own, .ro] ?_
          simp
          refine callX_of hC6 (by simp) ?_
          simp [q0, q3, q4, q5]
          refine ⟨by omega, 201 - (L.length + 1), by omega, i6, a6, h6, L ++ [v6], by simp; omega, by simp, valsF_snoc hv b6, by simp⟩
        · refine exK_of (i, h, IntKind.i64.wrap (1 + y1), (f2, L, n2)) ⟨hi, ⟨by simp only; omega, by simp only; omega⟩, hv, e2⟩ ?_
          simp [q0, q3, q4, q5]
    · obtain ⟨⟨i5, h5, y5⟩, ⟨a5, b5, c5⟩, hC5⟩ := w85 bs i4 h4 7 hb a4
      simp only at a5 b5 c5 hC5
      unfold curT at hC5
      refine callW_ms [.own, .ro] ?_
      simp
      refine callX_of hC5 (by simp) ?_
      simp
      refine exK_of (i5, h5, IntKind.i64.wrap (y5 - 1), (f2, o2, n2)) ⟨a5, ⟨by simp only; omega, by simp only; omega⟩, d2, e2⟩ ?_
      simp
set_option maxHeartbeats 1000000 in
set_option maxRecDepth 100000 in
theorem w35 (bs : List Int) (hb : bs.length ≤ 2^40) : ∃ x : StrP × Int, (strG 600 x.1) ∧ Contract Try.prog false 35 [.ro] [.sl false 1 (bs.map uT)] [strO x.1, .i .i64 x.2] [] := by
  refine mk_contractE [] Try.func35 (c := Try.f35.body.get!) (by kernel_rfl) k35 r35 (of_decide_eq_true rfl) ?_
  unfold c35; unfold strO; simp
  obtain ⟨h0, -, hC0⟩ := w83 bs hb
  unfold curT at hC0
  refine callW_ms [.ro] ?_
  simp
  refine callX_of hC0 (by simp) ?_
  simp
  obtain ⟨⟨i1, h1, k1, ⟨f1, o1, n1⟩⟩, ⟨a1, g1⟩, hC1⟩ := w84 bs 0 h0 hb (by omega)
  simp only at a1 g1 hC1
  unfold curT strO at hC1
  refine callW_ms [.own] ?_
  simp
  refine callX_of hC1 (by simp) ?_
  simp
  obtain ⟨⟨i2, h2, y2⟩, ⟨a2, b2, c2⟩, hC2⟩ := w85 bs i1 h1 9 hb a1
  simp only at a2 b2 c2 hC2
  unfold curT at hC2
  refine callW_ms [.own, .ro] ?_
  simp
  refine callX_of hC2 (by simp) ?_
  simp
  obtain ⟨⟨i3, h3, y3⟩, a3, hC3⟩ := w86 bs i2 h2 6 hb a2
  simp only at a3 hC3
  unfold curT at hC3
  refine callW_ms [.own, .ro] ?_
  simp
  refine callX_of hC3 (by simp) ?_
  cases y3 with
  | false =>
    simp
    refine exK_of ((f1, o1, n1), IntKind.i64.wrap (IntKind.i64.wrap (f1 + y2) - 3)) g1 ?_
    simp
  | true =>
    simp
    obtain ⟨⟨i4, h4, y4⟩, ⟨a4, b4⟩, hC4⟩ := w87 bs [-5, 0, 9223372036854775807, -9223372036854775808] i3 h3 hb a3 (by simp) (by simp)
    simp only at a4 b4 hC4
    unfold curT at hC4
    refine callW_ms [.own, .own] ?_
    simp
    refine callX_of hC4 (by simp) ?_
    simp
    refine exK_of ((f1, o1, n1), y4) g1 ?_
    simp
theorem unrF_valsF {u : StrP} (h : valsF u.2.1 ∧ valsF u.2.2) (c : Int) : valsF (unrF u c).1 := by
  unfold unrF
  split
  · intro v hv
    rcases List.mem_append.1 (List.mem_of_mem_drop hv) with h1 | h1
    · exact h.1 v h1
    · exact h.2 v h1
  · exact valsF_nil
theorem unrF_sum {u : StrP} {c : Int} (h0 : 0 ≤ u.1) (h1 : u.1 ≤ 1000000000000) (h2 : 0 ≤ c) (h3 : c ≤ (unrF u c).2.1) : c + (unrF u c).2.2 + (unrF u c).1.length = (unrF u c).2.1 ∧ 0 ≤ (unrF u c).2.2 ∧ (unrF u c).2.2 ≤ u.1 ∧ (unrF u c).2.1 ≤ u.1 + u.2.1.length + u.2.2.length := by
  unfold unrF at h3 ⊢
  rw [if_pos ⟨h0, h1⟩] at h3 ⊢
  simp only [List.length_drop, List.length_append] at h3 ⊢
  split <;> omega
set_option maxHeartbeats 1000000 in
set_option maxRecDepth 100000 in
theorem w8 (bs : List Int) : Contract Try.prog false 8 [.ro] [.sl false 1 (bs.map uT)] [.b true] [] := by
  refine mk_contract [] Try.func8 (c := Try.f8.body.get!) (by kernel_rfl) k8 r8 (of_decide_eq_true rfl) fun _ => ?_
  unfold c8; simp
  by_cases hbig : 1048576 < bs.length
  · refine callW_ms [.ro] ?_
    simp
    refine callX_of (w32 bs) (by simp) ?_
    simp [hbig]
  refine callW_ms [.ro] ?_
  simp
  refine callX_of (w32 bs) (by simp) ?_
  simp [hbig]
  obtain ⟨⟨⟨f, o, n⟩, c⟩, ⟨⟨g1, g2⟩, g3, g4⟩, hC⟩ := w35 bs (by omega)
  simp only at g1 g2 g3 g4 hC
  unfold strO at hC
  have hB : strB (2^39) (f, o, n) := ⟨by simp only; omega, by simp only; omega⟩
  have hI := w25 (f, o, n) c hB
  have hS := w24 (f, o, n) c hB
  have hl := unrF_len (f, o, n) c
  have hv := unrF_valsF (u := (f, o, n)) ⟨g3, g4⟩ c
  have hsum := unrF_sum (u := (f, o, n)) (c := c)
  generalize unrF (f, o, n) c = r at *
  obtain ⟨L, nx, ms⟩ := r
  simp only at hl hv hsum hI hS
  refine callW_ms [.ro] ?_
  simp
  refine callX_of hC (by simp) ?_
  simp
  refine callW_ms [.ro, .ro] ?_
  simp
  refine callX_of hI (by simp [strR]) ?_
  simp
  refine callW_ms [.ro, .ro] ?_
  simp
  refine callX_of hS (by simp [strR]) ?_
  simp
  refine callW_ms [.ro, .ro] ?_
  simp
  refine callX_of (w34 L (by omega) hv) (by simp) ?_
  simp
  have wl : IntKind.i64.wrap ((o.length : Int) + n.length) = o.length + n.length := wrap_id (by omega) (by omega)
  cases hb1 : decide (f < 0)
  rotate_left
  · simp [hb1, wl]
    omega
  have k1 := of_decide_eq_false hb1
  simp [hb1]
  cases hb2 : decide (1000000000000 < f)
  rotate_left
  · simp [hb2, wl]
    omega
  have k2 := of_decide_eq_false hb2
  simp [hb2]
  cases hb3 : decide (c < 0)
  rotate_left
  · simp [hb3, wl]
    omega
  have k3 := of_decide_eq_false hb3
  simp [hb3]
  refine ⟨fun k4 => ?_, fun k4 => ?_⟩
  · simp [wl]
    omega
  · obtain ⟨s1, s2, s3, s4⟩ := hsum (by omega) (by omega) (by omega) (by omega)
    have e1 : IntKind.i64.wrap (c + ms) = c + ms := wrap_id (by omega) (by omega)
    rw [e1, wrap_id (by omega) (by omega)]
    exact s1
end Go.Proofs.YtloodkhdngipbaaT
