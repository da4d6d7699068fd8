/- Draws of things: l2Ents whole, spoilt ones, some. -/
import Derived.Test.YtloodkhdngipbaaKo2
namespace Go.Proofs.YtloodkhdngipbaaT
set_option linter.unusedVariables false
set_option linter.unusedSimpArgs false
open Go

/- spec.l2Spoilt -/
def c136 : TCode := (.seq (.ops [⟨(some 3), 5, .box 2 (.t 1), none, []⟩, ⟨(some 4), 6, .box 2 (.c (.ag [(.sl true 1 []), (.sl true 1 [])])), none, []⟩])
  (.seq (.seq (.ops [⟨(some 6), 8, .mv (.t 0), none, []⟩, ⟨(some 7), 9, .call 85 [((.t 6), 3), ((.c (.i .i64 4)), 0)], none, []⟩])
  (.block 0 (.seq (.ops [⟨(some 18), 20, .bin .eql (.t 7) (.c (.i .i64 0)), none, []⟩, ⟨(some 17), 19, .mv (.t 18), none, []⟩])
  (.cond (.t 17)
  (.draw [⟨(some 19), 21, .faddr 1 1 (.t 3), none, []⟩, ⟨(some 20), 22, .load false 1 (.t 19), none, []⟩, ⟨(some 21), 23, .mv (.t 0), none, []⟩, ⟨(some 22), 24, .faddr 0 1 (.t 3), none, []⟩, ⟨(some 23), 25, .load false 1 (.t 22), none, []⟩, ⟨(some 24), 26, .len false (.t 23), none, []⟩, ⟨(some 25), 27, .bin .add (.t 24) (.c (.i .i64 3)), none, []⟩, ⟨(some 26), 28, .call 85 [((.t 21), 3), ((.t 25), 0)], none, [0, 1]⟩, ⟨(some 27), 29, .bin .sub (.t 26) (.c (.i .i64 1)), none, []⟩, ⟨(some 28), 30, .bslice 1 1 [(.i .i64 0)] [(0, (.t 27))], none, [0, 1]⟩, ⟨(some 29), 31, .app 1 8 (.t 20) (.t 28), none, []⟩, ⟨(some 30), 32, .faddr 1 1 (.t 3), none, []⟩, ⟨none, 1007012, .store 1 (.t 30) (.t 29), none, []⟩])
  (.seq (.ops [⟨(some 32), 34, .bin .eql (.t 7) (.c (.i .i64 1)), none, []⟩, ⟨(some 31), 33, .mv (.t 32), none, []⟩])
  (.cond (.t 31)
  (.seq (.ops [⟨(some 33), 35, .faddr 0 1 (.t 3), none, []⟩, ⟨(some 34), 36, .load false 1 (.t 33), none, []⟩, ⟨(some 35), 37, .len false (.t 34), none, []⟩, ⟨(some 36), 38, .bin .gtr (.t 35) (.c (.i .i64 0)), none, []⟩])
  (.cond (.t 36)
  (.draw [⟨(some 37), 39, .faddr 0 1 (.t 3), none, []⟩, ⟨(some 38), 40, .load false 1 (.t 37), none, []⟩, ⟨(some 39), 41, .mv (.t 0), none, []⟩, ⟨(some 40), 42, .faddr 0 1 (.t 3), none, []⟩, ⟨(some 41), 43, .load false 1 (.t 40), none, []⟩, ⟨(some 42), 44, .len false (.t 41), none, []⟩, ⟨(some 43), 45, .call 85 [((.t 39), 3), ((.t 42), 0)], none, [0, 1]⟩, ⟨(some 44), 46, .mv (.t 0), none, [6]⟩, ⟨(some 45), 47, .bslice 1 2 [(.i .i64 0)] [(0, (.c (.i .i64 (-1)))), (1, (.c (.i .i64 1000001)))], none, [0, 1, 2, 3, 4, 5, 6, 7]⟩, ⟨(some 46), 48, .call 87 [((.t 44), 3), ((.t 45), 0)], none, [0, 1]⟩, ⟨(some 47), 49, .iaddr 1 (.t 38) (.t 43), none, []⟩, ⟨none, 1010011, .store 1 (.t 47) (.t 46), none, []⟩])
  .skip))
  (.seq (.ops [⟨(some 49), 51, .bin .eql (.t 7) (.c (.i .i64 2)), none, []⟩, ⟨(some 48), 50, .mv (.t 49), none, []⟩])
  (.cond (.t 48)
  (.seq (.ops [⟨(some 50), 52, .faddr 1 1 (.t 3), none, []⟩, ⟨(some 51), 53, .load false 1 (.t 50), none, []⟩, ⟨(some 52), 54, .len false (.t 51), none, []⟩, ⟨(some 53), 55, .bin .gtr (.t 52) (.c (.i .i64 0)), none, []⟩])
  (.cond (.t 53)
  (.draw [⟨(some 54), 56, .faddr 1 1 (.t 3), none, []⟩, ⟨(some 55), 57, .load false 1 (.t 54), none, []⟩, ⟨(some 56), 58, .faddr 1 1 (.t 3), none, []⟩, ⟨(some 57), 59, .load false 1 (.t 56), none, []⟩, ⟨(some 58), 60, .iaddr 1 (.t 57) (.c (.i .i64 0)), none, []⟩, ⟨(some 59), 61, .load false 1 (.t 58), none, []⟩, ⟨(some 60), 62, .bslice 1 1 [(.i .i64 0)] [(0, (.t 59))], none, [0, 1]⟩, ⟨(some 61), 63, .app 1 8 (.t 55) (.t 60), none, []⟩, ⟨(some 62), 64, .faddr 1 1 (.t 3), none, []⟩, ⟨none, 1013009, .store 1 (.t 62) (.t 61), none, []⟩])
  .skip))
  (.seq (.ops [⟨(some 5), 7, .mv (.c (.i .i64 0)), none, []⟩])
  (.block 1 (.loop (.seq (.seq (.ops [⟨(some 8), 10, .mv (.t 5), none, []⟩, ⟨(some 9), 11, .bin .lss (.t 8) (.c (.i .i64 3)), none, []⟩])
  (.cond (.t 9)
  .skip
  (.exit 1)))
  (.seq (.block 2 (.ops [⟨(some 12), 14, .faddr 0 1 (.t 3), none, []⟩, ⟨(some 13), 15, .load false 1 (.t 12), none, []⟩, ⟨(some 14), 16, .bslice 1 1 [(.i .i64 0)] [(0, (.c (.i .i64 0)))], none, []⟩, ⟨(some 15), 17, .app 1 8 (.t 13) (.t 14), none, []⟩, ⟨(some 16), 18, .faddr 0 1 (.t 3), none, []⟩, ⟨none, 1005005, .store 1 (.t 16) (.t 15), none, []⟩]))
  (.ops [⟨(some 10), 12, .mv (.t 5), none, []⟩, ⟨(some 11), 13, .bin .add (.t 10) (.c (.i .i64 1)), none, []⟩, ⟨(some 5), 7, .mv (.t 11), none, []⟩]))))))))))))))
  (.seq (.ops [⟨(some 63), 65, .load true 2 (.t 3), none, []⟩, ⟨none, 1014001, .store 2 (.t 4) (.t 63), none, []⟩])
  .ret)))
theorem k136 : compCode Try.prog Try.f136.ntmps Try.f136.body.get! = some c136 := by kernel_rfl
theorem r136 : resTmps Try.prog Try.f136.results.toList = some [.cell 4 true 2] := by kernel_rfl
/- spec.l2Some -/
def c88 : TCode := (.seq (.ops [⟨(some 4), 6, .box 2 (.c (.ag [(.sl true 1 []), (.sl true 1 [])])), none, []⟩])
  (.seq (.ops [⟨(some 6), 8, .mv (.t 0), none, []⟩, ⟨(some 7), 9, .mv (.t 1), none, []⟩, ⟨(some 8), 10, .call 135 [((.t 7), 0), ((.c (.i .i64 20)), 0)], none, []⟩, ⟨(some 9), 11, .call 134 [((.t 6), 3), ((.t 8), 0)], none, []⟩, ⟨(some 5), 7, .box 2 (.c (.ag [(.sl true 1 []), (.sl true 1 [])])), none, []⟩, ⟨none, 1001005, .store 2 (.t 5) (.t 9), none, []⟩])
  (.seq (.seq (.ops [⟨(some 10), 12, .mv (.t 0), none, []⟩, ⟨(some 11), 13, .call 86 [((.t 10), 3), ((.c (.i .i64 5)), 0)], none, []⟩])
  (.cond (.t 11)
  (.seq (.ops [⟨(some 12), 14, .mv (.t 0), none, []⟩, ⟨(some 13), 15, .load true 2 (.t 5), none, []⟩, ⟨(some 14), 16, .call 136 [((.t 12), 3), ((.t 13), 0)], none, []⟩, ⟨none, 1003003, .store 2 (.t 4) (.t 14), none, []⟩])
  .ret)
  .skip))
  (.seq (.ops [⟨(some 15), 17, .load true 2 (.t 5), none, []⟩, ⟨none, 1004001, .store 2 (.t 4) (.t 15), none, []⟩])
  .ret))))
theorem k88 : compCode Try.prog Try.f88.ntmps Try.f88.body.get! = some c88 := by kernel_rfl
theorem r88 : resTmps Try.prog Try.f88.results.toList = some [.cell 4 true 2] := by kernel_rfl
/- spec.DrawEntTake -/
def c40 : TCode := (.seq (.ops [⟨(some 2), 4, .box 2 (.c (.ag [(.sl true 1 []), (.sl true 1 [])])), none, []⟩])
  (.seq (.ops [⟨(some 4), 6, .mv (.t 0), none, []⟩, ⟨(some 5), 7, .call 83 [((.t 4), 0)], none, []⟩, ⟨(some 3), 5, .mv (.t 5), none, []⟩])
  (.seq (.ops [⟨(some 6), 8, .mv (.t 3), none, []⟩, ⟨(some 7), 9, .mv (.t 0), none, []⟩, ⟨(some 8), 10, .call 88 [((.t 6), 3), ((.t 7), 0)], none, []⟩, ⟨none, 1002003, .store 2 (.t 2) (.t 8), none, []⟩])
  .ret)))
theorem k40 : compCode Try.prog Try.f40.ntmps Try.f40.body.get! = some c40 := by kernel_rfl
theorem r40 : resTmps Try.prog Try.f40.results.toList = some [.cell 2 true 2] := by kernel_rfl
/- spec.DrawEntAhead -/
def c36 : TCode := (.seq (.ops [⟨(some 2), 4, .box 2 (.c (.ag [(.sl true 1 []), (.sl true 1 [])])), none, []⟩, ⟨(some 3), 5, .mv (.c (.i .i64 0)), none, []⟩])
  (.seq (.ops [⟨(some 6), 8, .mv (.t 0), none, []⟩, ⟨(some 7), 9, .call 83 [((.t 6), 0)], none, []⟩, ⟨(some 4), 6, .mv (.t 7), none, []⟩])
  (.seq (.ops [⟨(some 8), 10, .mv (.t 4), none, []⟩, ⟨(some 9), 11, .mv (.t 0), none, []⟩, ⟨(some 10), 12, .call 88 [((.t 8), 3), ((.t 9), 0)], none, []⟩, ⟨(some 5), 7, .box 2 (.c (.ag [(.sl true 1 []), (.sl true 1 [])])), none, []⟩, ⟨none, 1002004, .store 2 (.t 5) (.t 10), none, []⟩])
  (.seq (.draw [⟨(some 11), 13, .load true 2 (.t 5), none, []⟩, ⟨(some 12), 14, .mv (.t 4), none, []⟩, ⟨(some 13), 15, .bslice 1 10 [(.i .i64 0)] [(0, (.c (.i .i64 (-1)))), (1, (.c (.i .i64 0))), (2, (.c (.i .i64 1))), (3, (.c (.i .i64 2))), (4, (.c (.i .i64 3))), (5, (.c (.i .i64 5))), (6, (.c (.i .i64 9))), (7, (.c (.i .i64 30))), (8, (.c (.i .i64 2000))), (9, (.c (.i .i64 2001)))], none, [0, 1]⟩, ⟨(some 14), 16, .call 87 [((.t 12), 3), ((.t 13), 0)], none, [0]⟩, ⟨none, 1003004, .store 2 (.t 2) (.t 11), none, []⟩, ⟨(some 3), 5, .mv (.t 14), none, []⟩])
  .ret))))
theorem k36 : compCode Try.prog Try.f36.ntmps Try.f36.body.get! = some c36 := by kernel_rfl
theorem r36 : resTmps Try.prog Try.f36.results.toList = some [.cell 2 true 2, .tmp 3] := by kernel_rfl

def zerosOk (g : List Int) (j : Nat) : Prop := (∀ x ∈ g, x = 0) ∧ g.length = j
theorem zerosOk.snoc {g : List Int} {j : Nat} (h : zerosOk g j) : zerosOk (g ++ [0]) (j + 1) := by
  refine ⟨fun x hx => ?_, by simp [h.2]⟩
  rcases List.mem_append.1 hx with hx | hx
  · exact h.1 x hx
  · simpa using hx
set_option maxHeartbeats 2000000 in
set_option maxRecDepth 100000 in
theorem w134 (bs : List Int) (i0 : Nat) (h0 : Int) (n : Nat) (hb : bs.length ≤ 2^40) (hi0 : i0 ≤ bs.length) (hn : n ≤ 100) : ∃ x : Nat × Int × List Int × List Int, (EntsD bs x) ∧ Contract Try.prog true 134 [.own, .ro] [curT bs i0 h0, .i .i64 n] [entsO x.2.2.1 x.2.2.2] [some (curT bs x.1 x.2.1)] := by
  refine mk_contractE [some [(1, 0)]] Try.func134 (c := Try.f134.body.get!) (by kernel_rfl) k134 r134 (of_decide_eq_true rfl) ?_
  have tl := tailE bs
  rw [c_restE]
  generalize restE = R at *
  simp only [fstE, sndE, c134]
  unfold curT entsO at *
  simp
  obtain ⟨⟨i1, h1, y1⟩, a1, hC1⟩ := w86 bs i0 h0 8 hb hi0
  simp only at a1 hC1
  unfold curT at hC1
  refine callW_ms [.own, .ro] ?_
  simp
  refine callX_of hC1 (by simp) ?_
  cases y1 with
  | false =>
    simp
    refine tl i1 h1 n [] [] hb a1 hn (EntsOkP.nil (by simp) (by simp)) _ ?_ ?_ ?_ ?_ ?_ <;> simp
  | true =>
    simp
    obtain ⟨⟨i2, h2, y2⟩, ⟨a2, b2, c2⟩, hC2⟩ := w85 bs i1 h1 3 hb a1
    simp only at a2 b2 c2 hC2
    unfold curT at hC2
    have c2' := c2 (by omega)
    have hw0 : IntKind.i64.wrap (2000 - y2) = 2000 - y2 := wrap_id (by omega) (by omega)
    refine callW_ms [.own, .ro] ?_
    simp
    refine callX_of hC2 (by simp) ?_
    simp [hw0]
    obtain ⟨N, hN⟩ : ∃ N : Nat, 2000 - y2 = N := ⟨(2000 - y2).toNat, by omega⟩
    rw [hN]
    refine twp_for N (fun j s => ∃ (g : List Int), zerosOk g j ∧ s.t 0 = .pt [(1, 0)] 0 0 ∧ s.t 1 = .i .i64 n ∧ s.t 4 = .pt [(6, 0)] 0 0 ∧ s.t 5 = .pt [(7, 0)] 0 0 ∧ s.t 6 = .i .i64 N ∧ s.t 7 = .i .i64 j ∧ s.H = lk [(1, [.po true [.sl false 1 (bs.map uT), .i .i64 i2, .i .i64 h2]]), (6, [.po true [.sl true 1 [], .sl true 1 []]]), (15, [.junk]), (16, [.junk]), (7, [.po true [.sl true 1 (g.map iT), .sl true 1 []]])]) [30, 31] (by simp) ?_ ?_
    · refine ⟨[], ⟨by simp, rfl⟩, ?_⟩
      simp
    · rintro j s hj ⟨g, hz, q0, q1, q4, q5, q6, q7, qH⟩
      rw [nf_of qH]
      have hgl := hz.2
      have hw : IntKind.i64.wrap ((j : Int) + 1) = j + 1 := wrap_id (by omega) (by omega)
      cases hb9 : decide (j < N)
      · have hge := of_decide_eq_false hb9
        simp [q0, q1, q4, q5, q6, q7, hb9]
        refine tl i2 h2 n g [] hb a2 hn (EntsOkP.nil hz.1 (by omega)) _ ?_ ?_ ?_ ?_ ?_ <;> simp [q0, q1, q4, q5]
      · have hlt := of_decide_eq_true hb9
        simp [q0, q1, q4, q5, q6, q7, hb9, hw, forK]
        refine ⟨by omega, hlt, g ++ [0], hz.snoc, ?_⟩
        simp
def EntsA (bs : List Int) (x : Nat × Int × List Int × List Int) : Prop := x.1 ≤ bs.length ∧ x.2.2.1.length ≤ 2003 ∧ x.2.2.2.length ≤ 2001
set_option maxHeartbeats 2000000 in
set_option maxRecDepth 100000 in
theorem w136 (bs : List Int) (i0 : Nat) (h0 : Int) (g f : List Int) (hb : bs.length ≤ 2^40) (hi0 : i0 ≤ bs.length) (hg : g.length ≤ 2000) (hf : f.length ≤ 2000) : ∃ x : Nat × Int × List Int × List Int, (EntsA bs x) ∧ Contract Try.prog true 136 [.own, .own] [curT bs i0 h0, entsO g f] [entsO x.2.2.1 x.2.2.2] [some (curT bs x.1 x.2.1), none, none] := by
  refine mk_contractE [some [(1, 0)], none, none] Try.func136 (c := Try.f136.body.get!) (by kernel_rfl) k136 r136 (of_decide_eq_true rfl) ?_
  unfold c136; unfold curT entsO; simp
  obtain ⟨⟨i1, h1, y1⟩, ⟨a1, b1, c1⟩, hC1⟩ := w85 bs i0 h0 4 hb hi0
  simp only at a1 b1 c1 hC1
  unfold curT at hC1
  refine callW_ms [.own, .ro] ?_
  simp
  refine callX_of hC1 (by simp) ?_
  have c1' := c1 (by omega)
  have hw3 : IntKind.i64.wrap ((g.length : Int) + 3) = g.length + 3 := wrap_id (by omega) (by omega)
  rcases (by omega : y1 = 0 ∨ y1 = 1 ∨ y1 = 2 ∨ y1 = 3) with rfl | rfl | rfl | rfl
  · simp [hw3]
    obtain ⟨⟨i2, h2, y2⟩, ⟨a2, b2, c2⟩, hC2⟩ := w85 bs i1 h1 ((g.length : Int) + 3) hb a1
    simp only at a2 b2 c2 hC2
    unfold curT at hC2
    refine callW_ms [.own, .ro] ?_
    simp
    refine callX_of hC2 (by simp) ?_
    simp
    refine ⟨by omega, ?_⟩
    refine exK_of (i2, h2, g, f ++ [IntKind.i64.wrap (y2 - 1)]) ⟨a2, by simp only; omega, by simp; omega⟩ ?_
    simp
  · simp
    refine ⟨fun hlt => ?_, fun hge => ?_⟩
    · obtain ⟨⟨i2, h2, y2⟩, ⟨a2, b2, c2⟩, hC2⟩ := w85 bs i1 h1 (g.length : Int) hb a1
      simp only at a2 b2 c2 hC2
      unfold curT at hC2
      have c3 := c2 (by omega)
      refine callW_ms [.own, .ro] ?_
      simp
      refine callX_of hC2 (by simp) ?_
      simp [b2]
      obtain ⟨⟨i3, h3, y3⟩, ⟨a3, b3⟩, hC3⟩ := w87 bs [-1, 1000001] i2 h2 hb a2 (by simp) (by simp)
      simp only at a3 b3 hC3
      unfold curT at hC3
      refine callW_ms [.own, .own] ?_
      simp
      refine callX_of hC3 (by simp) ?_
      obtain ⟨z, hz⟩ : ∃ z, g[y2.toNat]? = some z := get_some (by omega)
      simp [b2, hz]
      refine ⟨c3, ?_⟩
      refine exK_of (i3, h3, g.set y2.toNat y3, f) (show EntsA bs (i3, h3, g.set y2.toNat y3, f) from ⟨a3, by simp; omega, by simp only; omega⟩) ?_
      simp [List.map_set]
    · refine exK_of (i1, h1, g, f) ⟨a1, by simp only; omega, by simp only; omega⟩ ?_
      simp
  · simp
    refine ⟨fun hlt => ?_, fun hge => ?_⟩
    · obtain ⟨z, hz⟩ : ∃ z, f[0]? = some z := get_some (by omega)
      refine ⟨hlt, ?_⟩
      simp [hz]
      refine ⟨by omega, ?_⟩
      refine exK_of (i1, h1, g, f ++ [z]) ⟨a1, by simp only; omega, by simp; omega⟩ ?_
      simp
    · refine exK_of (i1, h1, g, f) ⟨a1, by simp only; omega, by simp only; omega⟩ ?_
      simp
  · simp
    refine twp_for 3 (fun j s => ∃ (g : List Int), g.length ≤ 2000 + j ∧ s.t 0 = .pt [(1, 0)] 0 0 ∧ s.t 3 = .pt [(5, 0)] 0 0 ∧ s.t 4 = .pt [(6, 0)] 0 0 ∧ s.t 5 = .i .i64 j ∧ s.H = lk [(1, [.po true [.sl false 1 (bs.map uT), .i .i64 i1, .i .i64 h1], .junk, .junk]), (5, [.po true [.sl true 1 (g.map iT), .sl true 1 (f.map iT)]]), (6, [.po true [.sl true 1 [], .sl true 1 []]])]) [16, 17] (by simp) ?_ ?_
    · refine ⟨g, by omega, ?_⟩
      simp
    · rintro j s hj ⟨g, hgl, q0, q3, q4, q5, qH⟩
      rw [nf_of qH]
      have hw : IntKind.i64.wrap ((j : Int) + 1) = j + 1 := wrap_id (by omega) (by omega)
      cases hb9 : decide ((j : Int) < 3)
      · have hge := of_decide_eq_false hb9
        simp [q0, q3, q4, q5, hb9]
        refine exK_of (i1, h1, g, f) ⟨a1, by simp only; omega, by simp only; omega⟩ ?_
        simp [q4]
      · have hlt := of_decide_eq_true hb9
        simp [q0, q3, q4, q5, hb9, hw, forK]
        refine ⟨by omega, by omega, g ++ [0], by simp; omega, ?_⟩
        simp
theorem EntsA_of {bs : List Int} {x : Nat × Int × List Int × List Int} (h : EntsD bs x) : EntsA bs x :=
  ⟨h.1, by have := h.2.2.2; omega, by have := h.2.fl; omega⟩
set_option maxRecDepth 100000 in
theorem w88 (bs : List Int) (i0 : Nat) (h0 : Int) (hb : bs.length ≤ 2^40) (hi0 : i0 ≤ bs.length) : ∃ x : Nat × Int × List Int × List Int, (EntsA bs x) ∧ Contract Try.prog true 88 [.own, .ro] [curT bs i0 h0, .sl false 1 (bs.map uT)] [entsO x.2.2.1 x.2.2.2] [some (curT bs x.1 x.2.1)] := by
  refine mk_contractE [some [(1, 0)]] Try.func88 (c := Try.f88.body.get!) (by kernel_rfl) k88 r88 (of_decide_eq_true rfl) ?_
  unfold c88; unfold curT entsO; simp
  have hS := w135 bs 20 hb
  have e1 : (bs.length : Int).tdiv 20 = ((bs.length : Int) / 20) := Int.tdiv_eq_ediv_of_nonneg (by omega)
  rw [e1] at hS
  obtain ⟨n, hn, hn2⟩ : ∃ n : Nat, (if 20 < 2 + (bs.length : Int) / 20 then 20 else 2 + (bs.length : Int) / 20) = n ∧ n ≤ 100 := by
    split
    · exact ⟨20, rfl, by omega⟩
    · exact ⟨(2 + (bs.length : Int) / 20).toNat, by omega, by omega⟩
  rw [hn] at hS
  refine callW_ms [.ro, .ro] ?_
  simp
  refine callX_of hS (by simp) ?_
  simp
  obtain ⟨⟨i1, h1, g, f⟩, hE, hC1⟩ := w134 bs i0 h0 n hb hi0 hn2
  have hA := EntsA_of hE
  obtain ⟨a1, hE⟩ := hE
  simp only at a1 hE hC1
  unfold curT entsO at hC1
  refine callW_ms [.own, .ro] ?_
  simp
  refine callX_of hC1 (by simp) ?_
  simp
  obtain ⟨⟨i2, h2, y2⟩, a2, hC2⟩ := w86 bs i1 h1 5 hb a1
  simp only at a2 hC2
  unfold curT at hC2
  refine callW_ms [.own, .ro] ?_
  simp
  refine callX_of hC2 (by simp) ?_
  cases y2 with
  | false =>
    simp
    refine exK_of (i2, h2, g, f) ⟨a2, hA.2⟩ ?_
    simp
  | true =>
    simp
    obtain ⟨⟨i3, h3, g3, f3⟩, ⟨a3, b3, c3⟩, hC3⟩ := w136 bs i2 h2 g f hb a2 hE.2.2 hE.fl
    simp only at a3 b3 c3 hC3
    unfold curT entsO at hC3
    refine callW_ms [.own, .own] ?_
    simp
    refine callX_of hC3 (by simp) ?_
    simp
    refine exK_of (i3, h3, g3, f3) ⟨a3, b3, c3⟩ ?_
    simp
set_option maxRecDepth 100000 in
theorem w40 (bs : List Int) (hb : bs.length ≤ 2^40) : ∃ x : List Int × List Int, (x.1.length ≤ 2003 ∧ x.2.length ≤ 2001) ∧ Contract Try.prog false 40 [.ro] [.sl false 1 (bs.map uT)] [entsO x.1 x.2] [] := by
  refine mk_contractE [] Try.func40 (c := Try.f40.body.get!) (by kernel_rfl) k40 r40 (of_decide_eq_true rfl) ?_
  unfold c40; unfold entsO; simp
  obtain ⟨h0, -, hC0⟩ := w83 bs hb
  unfold curT at hC0
  refine callW_ms [.ro] ?_
  simp
  refine callX_of hC0 (by simp) ?_
  simp
  obtain ⟨⟨i3, h3, g3, f3⟩, ⟨a3, b3, c3⟩, hC3⟩ := w88 bs 0 h0 hb (by omega)
  simp only at a3 b3 c3 hC3
  unfold curT entsO at hC3
  refine callW_ms [.own, .ro] ?_
  simp
  refine callX_of hC3 (by simp) ?_
  simp
  refine exK_of (g3, f3) ⟨b3, c3⟩ ?_
  simp
set_option maxRecDepth 100000 in
theorem w36 (bs : List Int) (hb : bs.length ≤ 2^40) : ∃ x : (List Int × List Int) × Int, (x.1.1.length ≤ 2003 ∧ x.1.2.length ≤ 2001 ∧ -1 ≤ x.2 ∧ x.2 ≤ 2001) ∧ Contract Try.prog false 36 [.ro] [.sl false 1 (bs.map uT)] [entsO x.1.1 x.1.2, .i .i64 x.2] [] := by
  refine mk_contractE [] Try.func36 (c := Try.f36.body.get!) (by kernel_rfl) k36 r36 (of_decide_eq_true rfl) ?_
  unfold c36; unfold entsO; simp
  obtain ⟨h0, -, hC0⟩ := w83 bs hb
  unfold curT at hC0
  refine callW_ms [.ro] ?_
  simp
  refine callX_of hC0 (by simp) ?_
  simp
  obtain ⟨⟨i3, h3, g3, f3⟩, ⟨a3, b3, c3⟩, hC3⟩ := w88 bs 0 h0 hb (by omega)
  simp only at a3 b3 c3 hC3
  unfold curT entsO at hC3
  refine callW_ms [.own, .ro] ?_
  simp
  refine callX_of hC3 (by simp) ?_
  simp
  obtain ⟨⟨i4, h4, y4⟩, ⟨a4, b4⟩, hC4⟩ := w87 bs [-1, 0, 1, 2, 3, 5, 9, 30, 2000, 2001] i3 h3 hb a3 (by simp) (by simp)
  simp only at a4 b4 hC4
  unfold curT at hC4
  refine callW_ms [.own, .own] ?_
  simp
  refine callX_of hC4 (by simp) ?_
  simp
  have hy : -1 ≤ y4 ∧ y4 ≤ 2001 := by
    simp only [List.mem_cons, List.not_mem_nil, or_false] at b4
    omega
  refine exK_of ((g3, f3), y4) ⟨b3, c3, hy⟩ ?_
  simp
end Go.Proofs.YtloodkhdngipbaaT
