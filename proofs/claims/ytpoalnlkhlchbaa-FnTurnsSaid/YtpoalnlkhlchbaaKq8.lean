/- FnTurns. -/
import Derived.Test.YtpoalnlkhlchbaaKq5
namespace Go.Proofs.YtpoalnlkhlchbaaT
set_option linter.unusedVariables false
set_option linter.unusedSimpArgs false
open Go

/- laws.FnTurns -/
def c10 : TCode := (.seq (.ops [⟨(some 2), 4, .mv (.c (.b false)), none, []⟩])
  (.seq (.seq (.ops [⟨(some 17), 19, .mv (.t 0), none, []⟩, ⟨(some 18), 20, .call 31 [((.t 17), 0)], none, []⟩])
  (.cond (.t 18)
  (.seq (.ops [⟨(some 2), 4, .mv (.c (.b true)), none, []⟩])
  .ret)
  .skip))
  (.seq (.ops [⟨(some 19), 21, .mv (.t 0), none, []⟩, ⟨(some 20), 22, .call 32 [((.t 19), 0), ((.c (.i .i64 0)), 0)], none, []⟩, ⟨(some 21), 23, .bin .sub (.t 20) (.c (.i .i64 100)), none, []⟩, ⟨(some 22), 24, .toF (.t 21), none, []⟩, ⟨(some 23), 25, .mv (.t 0), none, []⟩, ⟨(some 24), 26, .call 32 [((.t 23), 0), ((.c (.i .i64 1)), 0)], none, []⟩, ⟨(some 25), 27, .bin .add (.t 24) (.c (.i .i64 1)), none, []⟩, ⟨(some 26), 28, .toF (.t 25), none, []⟩, ⟨(some 27), 29, .build [(.i .i64 0), (.i .i64 0), (.f 0), (.f 0)] [(0, 1, (.c (.i .i64 3))), (2, 1, (.t 22)), (3, 1, (.t 26))], none, []⟩, ⟨(some 3), 5, .box 4 (.c (.ag [(.i .i64 0), (.i .i64 0), (.f 0), (.f 0)])), none, []⟩, ⟨none, 1003010, .store 4 (.t 3) (.t 27), none, []⟩])
  (.seq (.ops [⟨(some 28), 30, .build [(.i .i64 0), (.i .i64 0), (.f 0), (.f 0)] [(0, 1, (.c (.i .i64 3))), (3, 1, (.c (.f 4607182418800017408)))], none, []⟩, ⟨(some 4), 6, .box 4 (.c (.ag [(.i .i64 0), (.i .i64 0), (.f 0), (.f 0)])), none, []⟩, ⟨none, 1004002, .store 4 (.t 4) (.t 28), none, []⟩])
  (.seq (.ops [⟨(some 29), 31, .load true 4 (.t 3), none, []⟩, ⟨(some 5), 7, .box 4 (.c (.ag [(.i .i64 0), (.i .i64 0), (.f 0), (.f 0)])), none, []⟩, ⟨none, 1005002, .store 4 (.t 5) (.t 29), none, []⟩])
  (.seq (.seq (.ops [⟨(some 6), 8, .mv (.c (.i .i64 0)), none, []⟩])
  (.block 0 (.loop (.seq (.seq (.ops [⟨(some 30), 32, .mv (.t 6), none, []⟩, ⟨(some 31), 33, .bin .lss (.t 30) (.c (.i .i64 4)), none, []⟩])
  (.cond (.t 31)
  .skip
  (.exit 0)))
  (.seq (.block 1 (.seq (.ops [⟨(some 35), 37, .load true 4 (.t 5), none, []⟩, ⟨(some 36), 38, .load true 4 (.t 4), none, []⟩, ⟨(some 37), 39, .call 30 [((.c (.i .i64 3)), 0), ((.t 35), 0), ((.t 36), 0)], none, []⟩, ⟨(some 34), 36, .mv (.t 37), none, []⟩, ⟨(some 38), 40, .ext 0 (.t 34), none, []⟩, ⟨(some 39), 41, .ext 1 (.t 34), none, []⟩, ⟨(some 7), 9, .box 4 (.c (.ag [(.i .i64 0), (.i .i64 0), (.f 0), (.f 0)])), none, []⟩, ⟨none, 1009007, .store 4 (.t 7) (.t 38), none, []⟩, ⟨(some 8), 10, .mv (.t 39), none, []⟩])
  (.seq (.ops [⟨(some 41), 43, .load true 4 (.t 7), none, []⟩, ⟨(some 42), 44, .call 28 [((.c (.i .i64 6)), 0), ((.t 41), 0)], none, []⟩, ⟨(some 40), 42, .mv (.t 42), none, []⟩, ⟨(some 43), 45, .ext 0 (.t 40), none, []⟩, ⟨(some 44), 46, .ext 1 (.t 40), none, []⟩, ⟨(some 9), 11, .box 4 (.c (.ag [(.i .i64 0), (.i .i64 0), (.f 0), (.f 0)])), none, []⟩, ⟨none, 1010006, .store 4 (.t 9) (.t 43), none, []⟩, ⟨(some 10), 12, .mv (.t 44), none, []⟩])
  (.seq (.ops [⟨(some 46), 48, .load true 4 (.t 3), none, []⟩, ⟨(some 47), 49, .call 27 [((.c (.i .i64 6)), 0), ((.t 46), 0)], none, []⟩, ⟨(some 45), 47, .mv (.t 47), none, []⟩, ⟨(some 48), 50, .ext 0 (.t 45), none, []⟩, ⟨(some 49), 51, .ext 1 (.t 45), none, []⟩, ⟨(some 11), 13, .box 4 (.c (.ag [(.i .i64 0), (.i .i64 0), (.f 0), (.f 0)])), none, []⟩, ⟨none, 1011006, .store 4 (.t 11) (.t 48), none, []⟩, ⟨(some 12), 14, .mv (.t 49), none, []⟩])
  (.seq (.ops [⟨(some 51), 53, .load true 4 (.t 9), none, []⟩, ⟨(some 52), 54, .load true 4 (.t 11), none, []⟩, ⟨(some 53), 55, .call 30 [((.c (.i .i64 7)), 0), ((.t 51), 0), ((.t 52), 0)], none, []⟩, ⟨(some 50), 52, .mv (.t 53), none, []⟩, ⟨(some 54), 56, .ext 0 (.t 50), none, []⟩, ⟨(some 55), 57, .ext 1 (.t 50), none, []⟩, ⟨(some 13), 15, .box 4 (.c (.ag [(.i .i64 0), (.i .i64 0), (.f 0), (.f 0)])), none, []⟩, ⟨none, 1012007, .store 4 (.t 13) (.t 54), none, []⟩, ⟨(some 14), 16, .mv (.t 55), none, []⟩])
  (.seq (.seq (.ops [⟨(some 56), 58, .mv (.t 8), none, []⟩, ⟨(some 57), 59, .bin .neq (.t 56) (.c (.i .i64 0)), none, []⟩, ⟨(some 58), 60, .mv (.t 57), none, []⟩, ⟨(some 59), 61, .mv (.t 10), (some (58, false)), []⟩, ⟨(some 60), 62, .bin .neq (.t 59) (.c (.i .i64 0)), (some (58, false)), []⟩, ⟨(some 61), 63, .pick (.t 58) (.c (.b true)) (.t 60), none, []⟩, ⟨(some 62), 64, .mv (.t 61), none, []⟩, ⟨(some 63), 65, .mv (.t 14), (some (62, false)), []⟩, ⟨(some 64), 66, .bin .neq (.t 63) (.c (.i .i64 0)), (some (62, false)), []⟩, ⟨(some 65), 67, .pick (.t 62) (.c (.b true)) (.t 64), none, []⟩, ⟨(some 66), 68, .mv (.t 65), none, []⟩, ⟨(some 67), 69, .faddr 1 1 (.t 13), (some (66, false)), []⟩, ⟨(some 68), 70, .load false 1 (.t 67), (some (66, false)), []⟩, ⟨(some 69), 71, .bin .neq (.t 68) (.c (.i .i64 1)), (some (66, false)), []⟩, ⟨(some 70), 72, .pick (.t 66) (.c (.b true)) (.t 69), none, []⟩, ⟨(some 71), 73, .mv (.t 70), none, []⟩, ⟨(some 72), 74, .mv (.t 6), (some (71, false)), []⟩, ⟨(some 73), 75, .bin .eql (.t 72) (.c (.i .i64 0)), (some (71, false)), []⟩, ⟨(some 74), 76, .mv (.t 73), (some (71, false)), []⟩, ⟨(some 75), 77, .faddr 2 1 (.t 7), (some (74, true)), []⟩, ⟨(some 76), 78, .load false 1 (.t 75), (some (74, true)), []⟩, ⟨(some 77), 79, .faddr 3 1 (.t 3), (some (74, true)), []⟩, ⟨(some 78), 80, .load false 1 (.t 77), (some (74, true)), []⟩, ⟨(some 79), 81, .un .neg (.t 78), (some (74, true)), []⟩, ⟨(some 80), 82, .bin .neq (.t 76) (.t 79), (some (74, true)), []⟩, ⟨(some 81), 83, .mv (.t 80), (some (74, true)), []⟩, ⟨(some 82), 84, .faddr 3 1 (.t 7), (some (81, false)), []⟩, ⟨(some 83), 85, .load false 1 (.t 82), (some (81, false)), []⟩, ⟨(some 84), 86, .faddr 2 1 (.t 3), (some (81, false)), []⟩, ⟨(some 85), 87, .load false 1 (.t 84), (some (81, false)), []⟩, ⟨(some 86), 88, .bin .neq (.t 83) (.t 85), (some (81, false)), []⟩, ⟨(some 87), 89, .pick (.t 81) (.c (.b true)) (.t 86), (some (74, true)), []⟩, ⟨(some 88), 90, .pick (.t 74) (.t 87) (.c (.b false)), (some (71, false)), []⟩, ⟨(some 89), 91, .pick (.t 71) (.c (.b true)) (.t 88), none, []⟩])
  (.cond (.t 89)
  (.seq (.ops [⟨(some 2), 4, .mv (.c (.b false)), none, []⟩])
  .ret)
  .skip))
  (.ops [⟨(some 90), 92, .load true 4 (.t 7), none, []⟩, ⟨none, 1015001, .store 4 (.t 5) (.t 90), none, []⟩])))))))
  (.ops [⟨(some 32), 34, .mv (.t 6), none, []⟩, ⟨(some 33), 35, .bin .add (.t 32) (.c (.i .i64 1)), none, []⟩, ⟨(some 6), 8, .mv (.t 33), none, []⟩]))))))
  (.seq (.ops [⟨(some 92), 94, .load true 4 (.t 5), none, []⟩, ⟨(some 93), 95, .load true 4 (.t 3), none, []⟩, ⟨(some 94), 96, .call 30 [((.c (.i .i64 7)), 0), ((.t 92), 0), ((.t 93), 0)], none, []⟩, ⟨(some 91), 93, .mv (.t 94), none, []⟩, ⟨(some 95), 97, .ext 0 (.t 91), none, []⟩, ⟨(some 96), 98, .ext 1 (.t 91), none, []⟩, ⟨(some 15), 17, .box 4 (.c (.ag [(.i .i64 0), (.i .i64 0), (.f 0), (.f 0)])), none, []⟩, ⟨none, 1016007, .store 4 (.t 15) (.t 95), none, []⟩, ⟨(some 16), 18, .mv (.t 96), none, []⟩])
  (.seq (.ops [⟨(some 97), 99, .faddr 1 1 (.t 15), none, []⟩, ⟨(some 98), 100, .load false 1 (.t 97), none, []⟩, ⟨(some 99), 101, .bin .eql (.t 98) (.c (.i .i64 1)), none, []⟩, ⟨(some 2), 4, .mv (.t 99), none, []⟩])
  .ret))))))))
theorem k10 : compCode Try.prog Try.f10.ntmps Try.f10.body.get! = some c10 := by kernel_rfl
theorem r10 : resTmps Try.prog Try.f10.results.toList = some [.tmp 2] := by kernel_rfl

theorem at_in2 {bs : List Int} (i : Nat) (hi : i ≤ 10) (h : bytes bs) (hb : bs.length ≤ 1048576) : 0 ≤ atF bs i ∧ atF bs i ≤ 255 := by
  unfold atF
  split
  · rename_i x hx
    have := h x (List.mem_of_getElem? hx)
    rw [wrap_id (by omega) (by omega)]; exact this
  · have := tmod_in (a := (i : Int) * 7 + bs.length) (n := 256) (by omega) (by omega)
    omega
theorem flI_ok (n : Int) : fOk (flI n) := fOk_near n
theorem wS_one (a b : Int) : wS a b 1 = (3, 0, flI (-b), flI a) := rfl
theorem wS_nought (a b : Int) : wS a b 0 = (3, 0, flI a, flI b) := rfl
theorem wS_four (a b : Int) : wS a b 4 = (3, 0, flI a, flI b) := rfl
set_option maxHeartbeats 2000000 in
set_option maxRecDepth 100000 in
theorem w10 (bs : List Int) (hby : bytes bs) : Contract Try.prog false 10 [.ro] [.sl false 1 (bs.map uT)] [.b true] [] := by
  refine mk_contract [] Try.func10 (c := Try.f10.body.get!) (by kernel_rfl) k10 r10 (of_decide_eq_true rfl) fun _ => ?_
  unfold c10; simp
  by_cases hbig : 1048576 < bs.length
  · refine callW_ms [.ro] ?_
    simp
    refine callX_of (w31 bs) (by simp) ?_
    simp [hbig]
  refine callW_ms [.ro] ?_
  simp
  refine callX_of (w31 bs) (by simp) ?_
  simp [hbig]
  have hA0 := w32 bs 0 (by omega) (by omega)
  have hA1 := w32 bs 1 (by omega) (by omega)
  have r0 := at_in2 (bs := bs) 0 (by omega) hby (by omega)
  have r1 := at_in2 (bs := bs) 1 (by omega) hby (by omega)
  have wA : IntKind.i64.wrap (atF bs 0 - 100) = atF bs 0 - 100 := wrap_id (by omega) (by omega)
  have wB : IntKind.i64.wrap (atF bs 1 + 1) = atF bs 1 + 1 := wrap_id (by omega) (by omega)
  refine callW_ms [.ro, .ro] ?_
  simp
  refine callX_of hA0 (by simp) ?_
  simp [wA]
  refine callW_ms [.ro, .ro] ?_
  simp
  refine callX_of hA1 (by simp) ?_
  simp [wB]
  obtain ⟨a, ha⟩ : ∃ a, a = atF bs 0 - 100 := ⟨_, rfl⟩
  obtain ⟨b, hb⟩ : ∃ b, b = atF bs 1 + 1 := ⟨_, rfl⟩
  simp only [← ha, ← hb]
  have ha0 : -256 ≤ a := by omega
  have ha1 : a ≤ 256 := by omega
  have hb0 : 0 < b := by omega
  have hb1 : b ≤ 256 := by omega
  clear hA0 hA1 wA wB r0 r1 ha hb hby
  have eA : canon (FloatKind.f64.nearest a) = flI a := rfl
  have eB : canon (FloatKind.f64.nearest b) = flI b := rfl
  simp only [eA, eB]
  refine twp_for 4 (fun j s => ∃ x y : Nat, wS a b j = (3, 0, x, y) ∧ s.t 3 = .pt [(5, 0)] 0 0 ∧ s.t 4 = .pt [(6, 0)] 0 0 ∧ s.t 5 = .pt [(7, 0)] 0 0 ∧ s.t 6 = .i .i64 j ∧ s.H = lk [(1, []), (5, [.po true [.i .i64 3, .i .i64 0, .f (flI a), .f (flI b)]]), (6, [.po true [.i .i64 3, .i .i64 0, .f 0, .f 4607182418800017408]]), (7, [.po true [.i .i64 3, .i .i64 0, .f x, .f y]])]) [9, 11, 13, 15] (by simp) ?_ ?_
  · refine ⟨flI a, flI b, rfl, ?_⟩
    simp
  · rintro j s hj ⟨x, y, ex, q3, q4, q5, q6, qH⟩
    rw [nf_of qH]
    cases hb9 : decide ((j : Int) < 4)
    · have hge := of_decide_eq_false hb9
      have e4 : j = 4 := by omega
      subst e4
      rw [wS_four] at ex
      simp only [Prod.mk.injEq, true_and] at ex
      obtain ⟨rfl, rfl⟩ := ex
      have hE := w30 7 (3, 0, flI a, flI b) (3, 0, flI a, flI b)
      rw [opF_same_pair (nN_fl a) (nN_fl b)] at hE
      simp [q3, q4, q5, q6, hb9]
      refine callW_ms [.ro, .ro, .ro] ?_
      simp
      refine callX_of hE (by simp [valV]) ?_
      simp [valV, boolV]
    · have hlt := of_decide_eq_true hb9
      obtain ⟨x', y', e'⟩ := wS_pair a b (j + 1)
      have hM := w30 3 (3, 0, x, y) (3, 0, 0, ONE)
      rw [← ex, wS_step ha0 ha1 hb0 hb1 (by omega), e', ex] at hM
      simp only [valV, ONE] at hM
      have hS := w28 6 (3, 0, x', y')
      have z1 := wS_size ha0 ha1 hb0 hb1 (j + 1)
      rw [e'] at z1
      rw [z1] at hS
      have hV := w27 6 (3, 0, flI a, flI b) ⟨flI_ok a, flI_ok b⟩
      have z0 := wS_size ha0 ha1 hb0 hb1 0
      rw [wS_nought] at z0
      rw [z0] at hV
      have hE := w30 7 (2, 0, sizeN a b, 0) (2, 0, sizeN a b, 0)
      rw [opF_same_size (sizeN_nN ha0 ha1 hb0 hb1)] at hE
      have hw : IntKind.i64.wrap ((j : Int) + 1) = j + 1 := wrap_id (by omega) (by omega)
      simp only [valV] at hS hV hE
      simp [q3, q4, q5, q6, hb9]
      refine callW_ms [.ro, .ro, .ro] ?_
      simp
      refine callX_of hM (by simp) ?_
      simp
      refine callW_ms [.ro, .ro] ?_
      simp
      refine callX_of hS (by simp) ?_
      simp [q3, q4, q5, q6]
      refine callW_ms [.ro, .ro] ?_
      simp
      refine callX_of hV (by simp) ?_
      simp
      refine callW_ms [.ro, .ro, .ro] ?_
      simp
      refine callX_of hE (by simp) ?_
      simp [q3, q4, q5, q6, boolV]
      by_cases h0 : j = 0
      · subst h0
        have hng := (small (n := b) (by omega) hb1).ng (by omega)
        have f1 := feq_self (nN_fl (-b))
        have f2 := feq_self (nN_fl a)
        rw [show 0 + 1 = 1 from rfl, wS_one] at e'
        simp only [Prod.mk.injEq, true_and] at e'
        obtain ⟨rfl, rfl⟩ := e'
        simp [q3, q4, q5, q6, hng, f1, f2, forK]
        refine ⟨flI (-b), flI a, rfl, ?_⟩
        have w1 : IntKind.i64.wrap 1 = 1 := by decide
        simp [q3, q4, q5, q6, w1]
      · have h1 : ¬ (j : Int) = 0 := by omega
        simp [q3, q4, q5, q6, h0, h1, hw, forK]
        refine ⟨by omega, x', y', e', ?_⟩
        simp [q3, q4, q5, q6]
end Go.Proofs.YtpoalnlkhlchbaaT
