/- Draws for what is done with values. -/
import Derived.Test.YtpoalnlkhlchbaaKr1
namespace Go.Proofs.YtpoalnlkhlchbaaT
set_option linter.unusedVariables false
set_option linter.unusedSimpArgs false
open Go

/- spec.DrawValOp -/
def c33 : TCode := (.seq (.ops [⟨(some 2), 4, .mv (.c (.i .i64 0)), none, []⟩, ⟨(some 3), 5, .box 4 (.c (.ag [(.i .i64 0), (.i .i64 0), (.f 0), (.f 0)])), none, []⟩, ⟨(some 4), 6, .box 4 (.c (.ag [(.i .i64 0), (.i .i64 0), (.f 0), (.f 0)])), none, []⟩])
  (.seq (.ops [⟨(some 9), 11, .mv (.t 0), none, []⟩, ⟨(some 10), 12, .call 62 [((.t 9), 0)], none, []⟩, ⟨(some 5), 7, .mv (.t 10), none, []⟩])
  (.seq (.ops [⟨(some 11), 13, .mv (.t 5), none, []⟩, ⟨(some 12), 14, .call 63 [((.t 11), 3), ((.c (.i .i64 9)), 0)], none, []⟩, ⟨(some 13), 15, .bin .add (.c (.i .i64 1)) (.t 12), none, []⟩, ⟨(some 6), 8, .mv (.t 13), none, []⟩])
  (.seq (.seq (.ops [⟨(some 14), 16, .mv (.t 5), none, []⟩, ⟨(some 15), 17, .call 64 [((.t 14), 3), ((.c (.i .i64 12)), 0)], none, []⟩])
  (.cond (.t 15)
  (.ops [⟨(some 16), 18, .mv (.t 5), none, []⟩, ⟨(some 17), 19, .call 63 [((.t 16), 3), ((.c (.i .i64 14)), 0)], none, []⟩, ⟨(some 18), 20, .bin .sub (.t 17) (.c (.i .i64 2)), none, []⟩, ⟨(some 6), 8, .mv (.t 18), none, []⟩])
  .skip))
  (.seq (.ops [⟨(some 19), 21, .mv (.t 5), none, []⟩, ⟨(some 20), 22, .call 65 [((.t 19), 3)], none, []⟩, ⟨(some 7), 9, .box 4 (.c (.ag [(.i .i64 0), (.i .i64 0), (.f 0), (.f 0)])), none, []⟩, ⟨none, 1005003, .store 4 (.t 7) (.t 20), none, []⟩])
  (.seq (.ops [⟨(some 21), 23, .mv (.t 5), none, []⟩, ⟨(some 22), 24, .faddr 0 1 (.t 7), none, []⟩, ⟨(some 23), 25, .load false 1 (.t 22), none, []⟩, ⟨(some 24), 26, .call 66 [((.t 21), 3), ((.t 23), 0)], none, []⟩, ⟨(some 8), 10, .box 4 (.c (.ag [(.i .i64 0), (.i .i64 0), (.f 0), (.f 0)])), none, []⟩, ⟨none, 1006005, .store 4 (.t 8) (.t 24), none, []⟩])
  (.seq (.seq (.ops [⟨(some 25), 27, .mv (.t 5), none, []⟩, ⟨(some 26), 28, .call 64 [((.t 25), 3), ((.c (.i .i64 8)), 0)], none, []⟩])
  (.cond (.t 26)
  (.ops [⟨(some 27), 29, .mv (.t 5), none, []⟩, ⟨(some 28), 30, .call 65 [((.t 27), 3)], none, []⟩, ⟨none, 1008002, .store 4 (.t 8) (.t 28), none, []⟩])
  .skip))
  (.seq (.draw [⟨(some 29), 31, .mv (.t 6), none, []⟩, ⟨(some 30), 32, .load true 4 (.t 7), none, []⟩, ⟨(some 31), 33, .load true 4 (.t 8), none, []⟩, ⟨(some 2), 4, .mv (.t 29), none, []⟩, ⟨none, 1009004, .store 4 (.t 3) (.t 30), none, [1000000, 2]⟩, ⟨none, 1009005, .store 4 (.t 4) (.t 31), none, []⟩])
  .ret))))))))
theorem k33 : compCode Try.prog Try.f33.ntmps Try.f33.body.get! = some c33 := by kernel_rfl
theorem r33 : resTmps Try.prog Try.f33.results.toList = some [.tmp 2, .cell 3 true 4, .cell 4 true 4] := by kernel_rfl

set_option maxHeartbeats 1000000 in
set_option maxRecDepth 100000 in
theorem w33 (bs : List Int) (hb : bs.length ≤ 2^40) : ∃ x : Int × ValP × ValP, ((valOkF x.2.1 ∧ in64 x.2.1.2.1) ∧ valOkF x.2.2 ∧ in64 x.2.2.2.1) ∧ Contract Try.prog false 33 [.ro] [.sl false 1 (bs.map uT)] [.i .i64 x.1, valV x.2.1, valV x.2.2] [] := by
  refine mk_contractE [] Try.func33 (c := Try.f33.body.get!) (by kernel_rfl) k33 r33 (of_decide_eq_true rfl) ?_
  unfold c33; unfold valV; simp
  obtain ⟨h0, -, hC0⟩ := w62 bs hb
  unfold curT at hC0
  refine callW_ms [.ro] ?_
  simp
  refine callX_of hC0 (by simp) ?_
  simp
  obtain ⟨⟨i1, h1, y1⟩, ⟨a1, b1, c1⟩, hC1⟩ := w63 bs 0 h0 9 hb (by omega)
  simp only at a1 b1 c1 hC1
  unfold curT at hC1
  refine callW_ms [.own, .ro] ?_
  simp
  refine callX_of hC1 (by simp) ?_
  simp
  obtain ⟨⟨i2, h2, y2⟩, a2, hC2⟩ := w64 bs i1 h1 12 hb a1
  simp only at a2 hC2
  unfold curT at hC2
  refine callW_ms [.own, .ro] ?_
  simp
  refine callX_of hC2 (by simp) ?_
  cases y2 with
  | false =>
    simp
    obtain ⟨⟨i4, h4, v4⟩, ⟨a4, b4, g4⟩, hC4⟩ := w65 bs i2 h2 hb a2
    simp only at a4 b4 g4 hC4
    unfold curT valV at hC4
    refine callW_ms [.own] ?_
    simp
    refine callX_of hC4 (by simp) ?_
    simp
    obtain ⟨⟨i5, h5, v5⟩, ⟨a5, b5, g5⟩, hC5⟩ := w66 bs i4 h4 v4.1 hb a4
    simp only at a5 b5 g5 hC5
    unfold curT valV at hC5
    refine callW_ms [.own, .ro] ?_
    simp
    refine callX_of hC5 (by simp) ?_
    simp
    obtain ⟨⟨i6, h6, y6⟩, a6, hC6⟩ := w64 bs i5 h5 8 hb a5
    simp only at a6 hC6
    unfold curT at hC6
    refine callW_ms [.own, .ro] ?_
    simp
    refine callX_of hC6 (by simp) ?_
    cases y6 with
    | false =>
      simp
      refine exK_of (IntKind.i64.wrap (1 + y1), v4, v5) ⟨⟨b4, g4⟩, b5, g5⟩ ?_
      simp
    | true =>
      simp
      obtain ⟨⟨i7, h7, v7⟩, ⟨a7, b7, g7⟩, hC7⟩ := w65 bs i6 h6 hb a6
      simp only at a7 b7 g7 hC7
      unfold curT valV at hC7
      refine callW_ms [.own] ?_
      simp
      refine callX_of hC7 (by simp) ?_
      simp
      refine exK_of (IntKind.i64.wrap (1 + y1), v4, v7) ⟨⟨b4, g4⟩, b7, g7⟩ ?_
      simp
  | true =>
    simp
    obtain ⟨⟨i3, h3, y3⟩, ⟨a3, b3, c3⟩, hC3⟩ := w63 bs i2 h2 14 hb a2
    simp only at a3 b3 c3 hC3
    unfold curT at hC3
    refine callW_ms [.own, .ro] ?_
    simp
    refine callX_of hC3 (by simp) ?_
    simp
    obtain ⟨⟨i4, h4, v4⟩, ⟨a4, b4, g4⟩, hC4⟩ := w65 bs i3 h3 hb a3
    simp only at a4 b4 g4 hC4
    unfold curT valV at hC4
    refine callW_ms [.own] ?_
    simp
    refine callX_of hC4 (by simp) ?_
    simp
    obtain ⟨⟨i5, h5, v5⟩, ⟨a5, b5, g5⟩, hC5⟩ := w66 bs i4 h4 v4.1 hb a4
    simp only at a5 b5 g5 hC5
    unfold curT valV at hC5
    refine callW_ms [.own, .ro] ?_
    simp
    refine callX_of hC5 (by simp) ?_
    simp
    obtain ⟨⟨i6, h6, y6⟩, a6, hC6⟩ := w64 bs i5 h5 8 hb a5
    simp only at a6 hC6
    unfold curT at hC6
    refine callW_ms [.own, .ro] ?_
    simp
    refine callX_of hC6 (by simp) ?_
    cases y6 with
    | false =>
      simp
      refine exK_of (IntKind.i64.wrap (y3 - 2), v4, v5) ⟨⟨b4, g4⟩, b5, g5⟩ ?_
      simp
    | true =>
      simp
      obtain ⟨⟨i7, h7, v7⟩, ⟨a7, b7, g7⟩, hC7⟩ := w65 bs i6 h6 hb a6
      simp only at a7 b7 g7 hC7
      unfold curT valV at hC7
      refine callW_ms [.own] ?_
      simp
      refine callX_of hC7 (by simp) ?_
      simp
      refine exK_of (IntKind.i64.wrap (y3 - 2), v4, v7) ⟨⟨b4, g4⟩, b7, g7⟩ ?_
      simp
end Go.Proofs.YtpoalnlkhlchbaaT
