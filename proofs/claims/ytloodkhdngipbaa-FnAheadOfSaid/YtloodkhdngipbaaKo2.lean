/- Draws of things: the walks. -/
import Derived.Test.YtloodkhdngipbaaKo1
namespace Go.Proofs.YtloodkhdngipbaaT
set_option linter.unusedVariables false
set_option linter.unusedSimpArgs false
open Go

/- spec.l1Size -/
def c135 : TCode := (.seq (.ops [⟨(some 4), 6, .mv (.c (.i .i64 0)), none, []⟩])
  (.seq (.ops [⟨(some 6), 8, .mv (.t 0), none, []⟩, ⟨(some 7), 9, .len false (.t 6), none, []⟩, ⟨(some 8), 10, .bin .quo (.t 7) (.c (.i .i64 20)), none, []⟩, ⟨(some 9), 11, .bin .add (.c (.i .i64 2)) (.t 8), none, []⟩, ⟨(some 5), 7, .mv (.t 9), none, []⟩])
  (.seq (.seq (.ops [⟨(some 10), 12, .mv (.t 5), none, []⟩, ⟨(some 11), 13, .mv (.t 1), none, []⟩, ⟨(some 12), 14, .bin .gtr (.t 10) (.t 11), none, []⟩])
  (.cond (.t 12)
  (.seq (.ops [⟨(some 13), 15, .mv (.t 1), none, []⟩, ⟨(some 4), 6, .mv (.t 13), none, []⟩])
  .ret)
  .skip))
  (.seq (.ops [⟨(some 14), 16, .mv (.t 5), none, []⟩, ⟨(some 4), 6, .mv (.t 14), none, []⟩])
  .ret))))
theorem k135 : compCode Try.prog Try.f135.ntmps Try.f135.body.get! = some c135 := by kernel_rfl
theorem r135 : resTmps Try.prog Try.f135.results.toList = some [.tmp 4] := by kernel_rfl
/- spec.l2Ents -/
def c134 : TCode := (.seq (.ops [⟨(some 4), 6, .box 2 (.c (.ag [(.sl true 1 []), (.sl true 1 [])])), none, []⟩])
  (.seq (.ops [⟨(some 13), 15, .bslice 1 0 [(.i .i64 0)] [], none, []⟩, ⟨(some 14), 16, .bslice 1 0 [(.i .i64 0)] [], none, []⟩, ⟨(some 15), 17, .build [(.sl true 1 []), (.sl true 1 [])] [(0, 1, (.t 13)), (1, 1, (.t 14))], none, []⟩, ⟨(some 5), 7, .box 2 (.c (.ag [(.sl true 1 []), (.sl true 1 [])])), none, []⟩, ⟨none, 1001004, .store 2 (.t 5) (.t 15), none, []⟩])
  (.seq (.seq (.ops [⟨(some 16), 18, .mv (.t 0), none, []⟩, ⟨(some 17), 19, .call 86 [((.t 16), 3), ((.c (.i .i64 8)), 0)], none, []⟩])
  (.cond (.t 17)
  (.seq (.ops [⟨(some 18), 20, .mv (.t 0), none, []⟩, ⟨(some 19), 21, .call 85 [((.t 18), 3), ((.c (.i .i64 3)), 0)], none, []⟩, ⟨(some 20), 22, .bin .sub (.c (.i .i64 2000)) (.t 19), none, []⟩, ⟨(some 6), 8, .mv (.t 20), none, []⟩])
  (.seq (.ops [⟨(some 7), 9, .mv (.c (.i .i64 0)), none, []⟩])
  (.block 0 (.loop (.seq (.seq (.ops [⟨(some 21), 23, .mv (.t 7), none, []⟩, ⟨(some 22), 24, .mv (.t 6), none, []⟩, ⟨(some 23), 25, .bin .lss (.t 21) (.t 22), none, []⟩])
  (.cond (.t 23)
  .skip
  (.exit 0)))
  (.seq (.block 1 (.ops [⟨(some 26), 28, .faddr 0 1 (.t 5), none, []⟩, ⟨(some 27), 29, .load false 1 (.t 26), none, []⟩, ⟨(some 28), 30, .bslice 1 1 [(.i .i64 0)] [(0, (.c (.i .i64 0)))], none, []⟩, ⟨(some 29), 31, .app 1 8 (.t 27) (.t 28), none, []⟩, ⟨(some 30), 32, .faddr 0 1 (.t 5), none, []⟩, ⟨none, 1007005, .store 1 (.t 30) (.t 29), none, []⟩]))
  (.ops [⟨(some 24), 26, .mv (.t 7), none, []⟩, ⟨(some 25), 27, .bin .add (.t 24) (.c (.i .i64 1)), none, []⟩, ⟨(some 7), 9, .mv (.t 25), none, []⟩])))))))
  .skip))
  (.seq (.seq (.ops [⟨(some 8), 10, .mv (.c (.i .i64 0)), none, []⟩])
  (.block 2 (.loop (.seq (.seq (.ops [⟨(some 31), 33, .mv (.t 8), none, []⟩, ⟨(some 32), 34, .mv (.t 1), none, []⟩, ⟨(some 33), 35, .bin .lss (.t 31) (.t 32), none, []⟩])
  (.cond (.t 33)
  .skip
  (.exit 2)))
  (.seq (.block 3 (.seq (.ops [⟨(some 37), 39, .load true 2 (.t 5), none, []⟩, ⟨(some 38), 40, .call 94 [((.t 37), 0)], none, []⟩, ⟨(some 36), 38, .mv (.t 38), none, []⟩, ⟨(some 39), 41, .ext 0 (.t 36), none, []⟩, ⟨(some 40), 42, .ext 1 (.t 36), none, []⟩, ⟨(some 41), 43, .ext 2 (.t 36), none, []⟩, ⟨(some 9), 11, .box 2 (.c (.ag [(.sl true 1 []), (.sl true 1 [])])), none, []⟩, ⟨(some 10), 12, .box 2 (.c (.ag [(.i .i64 0), (.i .i64 0)])), none, []⟩, ⟨none, 1011008, .store 2 (.t 9) (.t 39), none, []⟩, ⟨none, 1011009, .store 2 (.t 10) (.t 40), none, []⟩, ⟨(some 11), 13, .mv (.t 41), none, []⟩])
  (.seq (.seq (.ops [⟨(some 42), 44, .mv (.t 11), none, []⟩, ⟨(some 43), 45, .bin .eql (.t 42) (.c (.i .i64 0)), none, []⟩])
  (.cond (.t 43)
  (.seq (.ops [⟨(some 44), 46, .load true 2 (.t 9), none, []⟩, ⟨none, 1013001, .store 2 (.t 5) (.t 44), none, []⟩])
  (.seq (.ops [⟨(some 45), 47, .mv (.t 0), none, []⟩, ⟨(some 46), 48, .call 86 [((.t 45), 3), ((.c (.i .i64 9)), 0)], none, []⟩])
  (.cond (.t 46)
  (.ops [⟨(some 47), 49, .faddr 0 1 (.t 5), none, []⟩, ⟨(some 48), 50, .load false 1 (.t 47), none, []⟩, ⟨(some 49), 51, .faddr 0 1 (.t 10), none, []⟩, ⟨(some 50), 52, .load false 1 (.t 49), none, []⟩, ⟨(some 51), 53, .iaddr 1 (.t 48) (.t 50), none, []⟩, ⟨none, 1015005, .store 1 (.t 51) (.c (.i .i64 1000000)), none, []⟩])
  .skip)))
  .skip))
  (.seq (.ops [⟨(some 52), 54, .mv (.t 0), none, []⟩, ⟨(some 53), 55, .call 86 [((.t 52), 3), ((.c (.i .i64 3)), 0)], none, []⟩, ⟨(some 54), 56, .mv (.t 53), none, []⟩, ⟨(some 55), 57, .faddr 0 1 (.t 5), (some (54, true)), []⟩, ⟨(some 56), 58, .load false 1 (.t 55), (some (54, true)), []⟩, ⟨(some 57), 59, .len false (.t 56), (some (54, true)), []⟩, ⟨(some 58), 60, .bin .gtr (.t 57) (.c (.i .i64 0)), (some (54, true)), []⟩, ⟨(some 59), 61, .pick (.t 54) (.t 58) (.c (.b false)), none, []⟩])
  (.cond (.t 59)
  (.seq (.ops [⟨(some 60), 62, .mv (.t 0), none, []⟩, ⟨(some 61), 63, .faddr 0 1 (.t 5), none, []⟩, ⟨(some 62), 64, .load false 1 (.t 61), none, []⟩, ⟨(some 63), 65, .len false (.t 62), none, []⟩, ⟨(some 64), 66, .call 85 [((.t 60), 3), ((.t 63), 0)], none, []⟩, ⟨(some 12), 14, .mv (.t 64), none, []⟩])
  (.seq (.draw [⟨(some 65), 67, .load true 2 (.t 5), none, []⟩, ⟨(some 66), 68, .mv (.t 12), none, []⟩, ⟨(some 67), 69, .faddr 0 1 (.t 5), none, []⟩, ⟨(some 68), 70, .load false 1 (.t 67), none, []⟩, ⟨(some 69), 71, .mv (.t 12), none, []⟩, ⟨(some 70), 72, .iaddr 1 (.t 68) (.t 69), none, []⟩, ⟨(some 71), 73, .load false 1 (.t 70), none, []⟩, ⟨(some 72), 74, .build [(.i .i64 0), (.i .i64 0)] [(0, 1, (.t 66)), (1, 1, (.t 71))], none, []⟩, ⟨(some 73), 75, .call 97 [((.t 65), 0), ((.t 72), 0)], none, []⟩])
  (.cond (.t 73)
  (.draw [⟨(some 74), 76, .load true 2 (.t 5), none, []⟩, ⟨(some 75), 77, .mv (.t 12), none, []⟩, ⟨(some 76), 78, .faddr 0 1 (.t 5), none, []⟩, ⟨(some 77), 79, .load false 1 (.t 76), none, []⟩, ⟨(some 78), 80, .mv (.t 12), none, []⟩, ⟨(some 79), 81, .iaddr 1 (.t 77) (.t 78), none, []⟩, ⟨(some 80), 82, .load false 1 (.t 79), none, []⟩, ⟨(some 81), 83, .build [(.i .i64 0), (.i .i64 0)] [(0, 1, (.t 75)), (1, 1, (.t 80))], none, []⟩, ⟨(some 82), 84, .call 158 [((.t 74), 0), ((.t 81), 0)], none, []⟩, ⟨none, 1019009, .store 2 (.t 5) (.t 82), none, []⟩])
  .skip)))
  .skip)))))
  (.ops [⟨(some 34), 36, .mv (.t 8), none, []⟩, ⟨(some 35), 37, .bin .add (.t 34) (.c (.i .i64 1)), none, []⟩, ⟨(some 8), 10, .mv (.t 35), none, []⟩]))))))
  (.seq (.ops [⟨(some 83), 85, .load true 2 (.t 5), none, []⟩, ⟨none, 1020001, .store 2 (.t 4) (.t 83), none, []⟩])
  .ret)))))
theorem k134 : compCode Try.prog Try.f134.ntmps Try.f134.body.get! = some c134 := by kernel_rfl
theorem r134 : resTmps Try.prog Try.f134.results.toList = some [.cell 4 true 2] := by kernel_rfl

theorem w135 (bs : List Int) (m : Int) (hb : bs.length ≤ 2^40) : Contract Try.prog false 135 [.ro, .ro] [.sl false 1 (bs.map uT), .i .i64 m] [.i .i64 (if m < 2 + (bs.length : Int).tdiv 20 then m else 2 + (bs.length : Int).tdiv 20)] [] := by
  refine mk_contract [] Try.func135 (c := Try.f135.body.get!) (by kernel_rfl) k135 r135 (of_decide_eq_true rfl) fun _ => ?_
  have e1 : (bs.length : Int).tdiv 20 = ((bs.length : Int) / 20) := Int.tdiv_eq_ediv_of_nonneg (by omega)
  have w1 : IntKind.i64.wrap ((bs.length : Int) / 20) = ((bs.length : Int) / 20) := wrap_id (by omega) (by omega)
  have w2 : IntKind.i64.wrap (2 + ((bs.length : Int) / 20)) = 2 + ((bs.length : Int) / 20) := wrap_id (by omega) (by omega)
  rw [e1]
  unfold c135; simp [e1, w1, w2]
  refine ⟨fun h => ?_, fun h => ?_⟩ <;> omega
def fstE : TCode → TCode
  | .seq a _ => a
  | c => c
def sndE : TCode → TCode
  | .seq _ b => b
  | c => c
def restE : TCode := sndE (sndE (sndE c134))
set_option maxRecDepth 100000 in
theorem c_restE : c134 = .seq (fstE c134) (.seq (fstE (sndE c134)) (.seq (fstE (sndE (sndE c134))) restE)) := rfl
def EntsD (bs : List Int) (x : Nat × Int × List Int × List Int) : Prop := x.1 ≤ bs.length ∧ EntsOkP x.2.2.1 x.2.2.2
set_option maxRecDepth 100000 in
set_option maxHeartbeats 4000000 in
theorem tailE (bs : List Int) (i0 : Nat) (h0 : Int) (n : Nat) (g0 f0 : List Int) (hb : bs.length ≤ 2^40) (hi0 : i0 ≤ bs.length) (hn : n ≤ 100) (hE0 : EntsOkP g0 f0) (s : St) (q0 : s.t 0 = .pt [(1, 0)] 0 0) (q1 : s.t 1 = .i .i64 n) (q4 : s.t 4 = .pt [(6, 0)] 0 0) (q5 : s.t 5 = .pt [(7, 0)] 0 0)
    (qH : s.H = lk [(1, [.po true [.sl false 1 (bs.map uT), .i .i64 i0, .i .i64 h0]]), (6, [.po true [.sl true 1 [], .sl true 1 []]]), (15, [.junk]), (16, [.junk]), (7, [.po true [.sl true 1 (g0.map iT), .sl true 1 (f0.map iT)]])]) :
    twp Try.prog restE (exK (fun (x : Nat × Int × List Int × List Int) => endW true [entsO x.2.2.1 x.2.2.2] [some (curT bs x.1 x.2.1)] [some [(1, 0)]] [.cell 4 true 2]) (EntsD bs)) s := by
  unfold restE c134
  simp only [sndE]
  rw [nf_of qH]
  simp [q0, q1, q4, q5]
  refine twp_for n (fun j s => ∃ (i : Nat) (h : Int) (g f : List Int), i ≤ bs.length ∧ EntsOkP g f ∧ s.t 0 = .pt [(1, 0)] 0 0 ∧ s.t 1 = .i .i64 n ∧ s.t 4 = .pt [(6, 0)] 0 0 ∧ s.t 5 = .pt [(7, 0)] 0 0 ∧ s.t 8 = .i .i64 j ∧ s.H = lk [(1, [.po true [.sl false 1 (bs.map uT), .i .i64 i, .i .i64 h]]), (6, [.po true [.sl true 1 [], .sl true 1 []]]), (7, [.po true [.sl true 1 (g.map iT), .sl true 1 (f.map iT)]])]) [11, 12, 15, 16, 40, 84] (by simp) ?_ ?_
  · refine ⟨i0, h0, g0, f0, hi0, hE0, ?_⟩
    simp [q0, q1, q4, q5]
  · rintro j s hj ⟨i, h, g, f, hi, hE, q0, q1, q4, q5, q8, qH⟩
    rw [nf_of qH]
    have hgl := hE.2.2
    have hfl := hE.fl
    have hw : IntKind.i64.wrap ((j : Int) + 1) = j + 1 := wrap_id (by omega) (by omega)
    cases hb9 : decide (j < n)
    · have hge := of_decide_eq_false hb9
      simp [q0, q1, q4, q5, q8, hb9]
      refine exK_of (i, h, g, f) ⟨hi, hE⟩ ?_
      simp [curT, entsO, q4]
    · have hlt := of_decide_eq_true hb9
      simp [q0, q1, q4, q5, q8, hb9]
      by_cases hfull : g.length = 2000 ∧ f = []
      · obtain ⟨hg2, rfl⟩ := hfull
        have hT := W94f g hg2
        unfold entsR entT at hT
        refine callW_ms [.ro] ?_
        simp
        refine callX_of hT (by simp) ?_
        simp [q0, q1, q4, q5, q8]
        have hpos : 0 < g.length := by omega
        obtain ⟨⟨i5, h5, y5⟩, a5, hC5⟩ := w86 bs i h 3 hb hi
        simp only at a5 hC5
        unfold curT at hC5
        refine callW_ms [.own, .ro] ?_
        simp
        refine callX_of hC5 (by simp) ?_
        cases y5 with
        | false =>
          simp [q0, q1, q4, q5, q8, hw, forK]
          refine ⟨hlt, i5, a5, h5, g, [], hE, ?_⟩
          simp [q0, q1, q4, q5, q8, hw]
        | true =>
          simp [q0, q1, q4, q5, q8, hpos]
          obtain ⟨⟨i6, h6, y6⟩, ⟨a6, b6, c6⟩, hC6⟩ := w85 bs i5 h5 ((g).length : Nat) hb a5
          simp only at a6 b6 c6 hC6
          unfold curT at hC6
          have c7 := c6 (by omega)
          obtain ⟨z, hz⟩ : ∃ z, (g)[y6.toNat]? = some z := get_some (by omega)
          refine callW_ms [.own, .ro] ?_
          simp
          refine callX_of hC6 (by simp) ?_
          simp [q0, q1, q4, q5, q8, b6, hz]
          have hL := w97 (g) ([]) y6 z (by omega) (by omega)
          simp only [entsR, entT] at hL
          refine ⟨c7, ?_⟩
          refine callW_ms [.ro, .ro] ?_
          simp
          by_cases hl : liveP (g) ([]) y6 z
          · refine callX_of (hL.t hl) (by simp) ?_
            simp [q0, q1, q4, q5, q8, b6, hz]
            have hG := w158 (g) ([]) y6 z (by omega) b6 hz ((hE).1 z (List.mem_of_getElem? hz))
            simp only [entsO, entT] at hG
            refine ⟨c7, ?_⟩
            refine callW_ms [.own, .ro] ?_
            simp
            refine callX_of hG (by simp) ?_
            simp [q0, q1, q4, q5, q8, hw, forK]
            refine ⟨hlt, i6, a6, h6, giveG (g) y6 z, ([]) ++ [y6], EntsOkP.give hE hl, ?_⟩
            simp [q0, q1, q4, q5, q8, hw]
          · refine callX_of (hL.f hl) (by simp) ?_
            simp [q0, q1, q4, q5, q8, b6, hz, hw, forK]
            refine ⟨hlt, i6, a6, h6, g, [], hE, ?_⟩
            simp [q0, q1, q4, q5, q8, hw]
      · obtain ⟨g1, f1, x, y, e1, hE1, hx0, hx1⟩ := hE.take hfull
        have hT := w94 g f (by omega) (by omega) (freeOk_mem hE.2.1)
        rw [e1] at hT
        simp only [entsO, entT] at hT
        refine callW_ms [.own] ?_
        simp
        refine callX_of hT (by simp) ?_
        simp [q0, q1, q4, q5, q8]
        have hgl1 := hE1.2.2
        have hfl1 := hE1.fl
        have hpos : 0 < g1.length := by omega
        obtain ⟨⟨i3, h3, y3⟩, a3, hC3⟩ := w86 bs i h 9 hb hi
        simp only at a3 hC3
        unfold curT at hC3
        refine callW_ms [.own, .ro] ?_
        simp
        refine callX_of hC3 (by simp) ?_
        cases y3 with
        | false =>
          simp [q0, q1, q4, q5, q8]
          obtain ⟨⟨i5, h5, y5⟩, a5, hC5⟩ := w86 bs i3 h3 3 hb a3
          simp only at a5 hC5
          unfold curT at hC5
          refine callW_ms [.own, .ro] ?_
          simp
          refine callX_of hC5 (by simp) ?_
          cases y5 with
          | false =>
            simp [q0, q1, q4, q5, q8, hw, forK]
            refine ⟨hlt, i5, a5, h5, g1, f1, hE1, ?_⟩
            simp [q0, q1, q4, q5, q8, hw]
          | true =>
            simp [q0, q1, q4, q5, q8, hpos]
            obtain ⟨⟨i6, h6, y6⟩, ⟨a6, b6, c6⟩, hC6⟩ := w85 bs i5 h5 ((g1).length : Nat) hb a5
            simp only at a6 b6 c6 hC6
            unfold curT at hC6
            have c7 := c6 (by omega)
            obtain ⟨z, hz⟩ : ∃ z, (g1)[y6.toNat]? = some z := get_some (by omega)
            refine callW_ms [.own, .ro] ?_
            simp
            refine callX_of hC6 (by simp) ?_
            simp [q0, q1, q4, q5, q8, b6, hz]
            have hL := w97 (g1) (f1) y6 z (by omega) (by omega)
            simp only [entsR, entT] at hL
            refine ⟨c7, ?_⟩
            refine callW_ms [.ro, .ro] ?_
            simp
            by_cases hl : liveP (g1) (f1) y6 z
            · refine callX_of (hL.t hl) (by simp) ?_
              simp [q0, q1, q4, q5, q8, b6, hz]
              have hG := w158 (g1) (f1) y6 z (by omega) b6 hz ((hE1).1 z (List.mem_of_getElem? hz))
              simp only [entsO, entT] at hG
              refine ⟨c7, ?_⟩
              refine callW_ms [.own, .ro] ?_
              simp
              refine callX_of hG (by simp) ?_
              simp [q0, q1, q4, q5, q8, hw, forK]
              refine ⟨hlt, i6, a6, h6, giveG (g1) y6 z, (f1) ++ [y6], EntsOkP.give hE1 hl, ?_⟩
              simp [q0, q1, q4, q5, q8, hw]
            · refine callX_of (hL.f hl) (by simp) ?_
              simp [q0, q1, q4, q5, q8, b6, hz, hw, forK]
              refine ⟨hlt, i6, a6, h6, g1, f1, hE1, ?_⟩
              simp [q0, q1, q4, q5, q8, hw]
        | true =>
          simp [q0, q1, q4, q5, q8, hx0, hx1]
          have hE2 : EntsOkP (g1.set x.toNat 1000000) f1 := hE1.set _ ⟨by omega, by omega⟩
          obtain ⟨g2, eg2⟩ : ∃ g2, g2 = g1.set x.toNat 1000000 := ⟨_, rfl⟩
          rw [← eg2] at hE2
          have eG : (g1.map iT).set x.toNat [.i .i64 1000000] = g2.map iT := by rw [eg2]; simp [List.map_set]
          have hgl2 : g2.length = g1.length := by rw [eg2]; simp
          have hpos2 : 0 < g2.length := by omega
          refine ⟨by omega, ?_⟩
          simp only [eG]
          obtain ⟨⟨i5, h5, y5⟩, a5, hC5⟩ := w86 bs i3 h3 3 hb a3
          simp only at a5 hC5
          unfold curT at hC5
          refine callW_ms [.own, .ro] ?_
          simp
          refine callX_of hC5 (by simp) ?_
          cases y5 with
          | false =>
            simp [q0, q1, q4, q5, q8, hw, forK]
            refine ⟨hlt, i5, a5, h5, g2, f1, hE2, ?_⟩
            simp [q0, q1, q4, q5, q8, hw]
          | true =>
            simp [q0, q1, q4, q5, q8, hpos2]
            obtain ⟨⟨i6, h6, y6⟩, ⟨a6, b6, c6⟩, hC6⟩ := w85 bs i5 h5 ((g2).length : Nat) hb a5
            simp only at a6 b6 c6 hC6
            unfold curT at hC6
            have c7 := c6 (by omega)
            obtain ⟨z, hz⟩ : ∃ z, (g2)[y6.toNat]? = some z := get_some (by omega)
            refine callW_ms [.own, .ro] ?_
            simp
            refine callX_of hC6 (by simp) ?_
            simp [q0, q1, q4, q5, q8, b6, hz]
            have hL := w97 (g2) (f1) y6 z (by omega) (by omega)
            simp only [entsR, entT] at hL
            refine ⟨c7, ?_⟩
            refine callW_ms [.ro, .ro] ?_
            simp
            by_cases hl : liveP (g2) (f1) y6 z
            · refine callX_of (hL.t hl) (by simp) ?_
              simp [q0, q1, q4, q5, q8, b6, hz]
              have hG := w158 (g2) (f1) y6 z (by omega) b6 hz ((hE2).1 z (List.mem_of_getElem? hz))
              simp only [entsO, entT] at hG
              refine ⟨c7, ?_⟩
              refine callW_ms [.own, .ro] ?_
              simp
              refine callX_of hG (by simp) ?_
              simp [q0, q1, q4, q5, q8, hw, forK]
              refine ⟨hlt, i6, a6, h6, giveG (g2) y6 z, (f1) ++ [y6], EntsOkP.give hE2 hl, ?_⟩
              simp [q0, q1, q4, q5, q8, hw]
            · refine callX_of (hL.f hl) (by simp) ?_
              simp [q0, q1, q4, q5, q8, b6, hz, hw, forK]
              refine ⟨hlt, i6, a6, h6, g2, f1, hE2, ?_⟩
              simp [q0, q1, q4, q5, q8, hw]
end Go.Proofs.YtloodkhdngipbaaT
