/- FnDivides. -/
import Derived.Test.YtpoalnlkhlchbaaKq2
namespace Go.Proofs.YtpoalnlkhlchbaaT
set_option linter.unusedVariables false
set_option linter.unusedSimpArgs false
open Go

/- laws.FnDivides -/
def c11 : TCode := (.seq (.ops [⟨(some 2), 4, .mv (.c (.b false)), none, []⟩])
  (.seq (.seq (.ops [⟨(some 12), 14, .mv (.t 0), none, []⟩, ⟨(some 13), 15, .call 31 [((.t 12), 0)], none, []⟩])
  (.cond (.t 13)
  (.seq (.ops [⟨(some 2), 4, .mv (.c (.b true)), none, []⟩])
  .ret)
  .skip))
  (.seq (.ops [⟨(some 15), 17, .mv (.t 0), none, []⟩, ⟨(some 16), 18, .call 33 [((.t 15), 0)], none, []⟩, ⟨(some 14), 16, .mv (.t 16), none, []⟩, ⟨(some 17), 19, .ext 0 (.t 14), none, []⟩, ⟨(some 18), 20, .ext 1 (.t 14), none, []⟩, ⟨(some 19), 21, .ext 2 (.t 14), none, []⟩, ⟨(some 4), 6, .box 4 (.c (.ag [(.i .i64 0), (.i .i64 0), (.f 0), (.f 0)])), none, []⟩, ⟨(some 5), 7, .box 4 (.c (.ag [(.i .i64 0), (.i .i64 0), (.f 0), (.f 0)])), none, []⟩, ⟨(some 3), 5, .mv (.t 17), none, []⟩, ⟨none, 1003009, .store 4 (.t 4) (.t 18), none, []⟩, ⟨none, 1003010, .store 4 (.t 5) (.t 19), none, []⟩])
  (.seq (.seq (.ops [⟨(some 20), 22, .load true 4 (.t 4), none, []⟩, ⟨(some 21), 23, .call 18 [((.t 20), 0)], none, []⟩, ⟨(some 22), 24, .un .not (.t 21), none, []⟩, ⟨(some 23), 25, .mv (.t 22), none, []⟩, ⟨(some 24), 26, .load true 4 (.t 5), (some (23, false)), []⟩, ⟨(some 25), 27, .call 18 [((.t 24), 0)], (some (23, false)), []⟩, ⟨(some 26), 28, .un .not (.t 25), (some (23, false)), []⟩, ⟨(some 27), 29, .pick (.t 23) (.c (.b true)) (.t 26), none, []⟩, ⟨(some 28), 30, .mv (.t 27), none, []⟩, ⟨(some 29), 31, .faddr 0 1 (.t 4), (some (28, false)), []⟩, ⟨(some 30), 32, .load false 1 (.t 29), (some (28, false)), []⟩, ⟨(some 31), 33, .bin .neq (.t 30) (.c (.i .i64 1)), (some (28, false)), []⟩, ⟨(some 32), 34, .pick (.t 28) (.c (.b true)) (.t 31), none, []⟩, ⟨(some 33), 35, .mv (.t 32), none, []⟩, ⟨(some 34), 36, .faddr 0 1 (.t 5), (some (33, false)), []⟩, ⟨(some 35), 37, .load false 1 (.t 34), (some (33, false)), []⟩, ⟨(some 36), 38, .bin .neq (.t 35) (.c (.i .i64 1)), (some (33, false)), []⟩, ⟨(some 37), 39, .pick (.t 33) (.c (.b true)) (.t 36), none, []⟩])
  (.cond (.t 37)
  (.seq (.ops [⟨(some 38), 40, .mv (.t 0), none, []⟩, ⟨(some 39), 41, .call 32 [((.t 38), 0), ((.c (.i .i64 0)), 0)], none, []⟩, ⟨(some 40), 42, .bin .sub (.t 39) (.c (.i .i64 128)), none, []⟩, ⟨(some 41), 43, .build [(.i .i64 0), (.i .i64 0), (.f 0), (.f 0)] [(0, 1, (.c (.i .i64 1))), (1, 1, (.t 40))], none, []⟩, ⟨none, 1005004, .store 4 (.t 4) (.t 41), none, []⟩])
  (.ops [⟨(some 42), 44, .mv (.t 0), none, []⟩, ⟨(some 43), 45, .call 32 [((.t 42), 0), ((.c (.i .i64 1)), 0)], none, []⟩, ⟨(some 44), 46, .bin .rem (.t 43) (.c (.i .i64 9)), none, []⟩, ⟨(some 45), 47, .bin .sub (.t 44) (.c (.i .i64 4)), none, []⟩, ⟨(some 46), 48, .build [(.i .i64 0), (.i .i64 0), (.f 0), (.f 0)] [(0, 1, (.c (.i .i64 1))), (1, 1, (.t 45))], none, []⟩, ⟨none, 1006005, .store 4 (.t 5) (.t 46), none, []⟩]))
  .skip))
  (.seq (.ops [⟨(some 48), 50, .load true 4 (.t 4), none, []⟩, ⟨(some 49), 51, .load true 4 (.t 5), none, []⟩, ⟨(some 50), 52, .call 30 [((.c (.i .i64 4)), 0), ((.t 48), 0), ((.t 49), 0)], none, []⟩, ⟨(some 47), 49, .mv (.t 50), none, []⟩, ⟨(some 51), 53, .ext 0 (.t 47), none, []⟩, ⟨(some 52), 54, .ext 1 (.t 47), none, []⟩, ⟨(some 6), 8, .box 4 (.c (.ag [(.i .i64 0), (.i .i64 0), (.f 0), (.f 0)])), none, []⟩, ⟨none, 1007007, .store 4 (.t 6) (.t 51), none, []⟩, ⟨(some 7), 9, .mv (.t 52), none, []⟩])
  (.seq (.ops [⟨(some 54), 56, .load true 4 (.t 4), none, []⟩, ⟨(some 55), 57, .load true 4 (.t 5), none, []⟩, ⟨(some 56), 58, .call 30 [((.c (.i .i64 5)), 0), ((.t 54), 0), ((.t 55), 0)], none, []⟩, ⟨(some 53), 55, .mv (.t 56), none, []⟩, ⟨(some 57), 59, .ext 0 (.t 53), none, []⟩, ⟨(some 58), 60, .ext 1 (.t 53), none, []⟩, ⟨(some 8), 10, .box 4 (.c (.ag [(.i .i64 0), (.i .i64 0), (.f 0), (.f 0)])), none, []⟩, ⟨none, 1008007, .store 4 (.t 8) (.t 57), none, []⟩, ⟨(some 9), 11, .mv (.t 58), none, []⟩])
  (.seq (.seq (.ops [⟨(some 59), 61, .faddr 1 1 (.t 5), none, []⟩, ⟨(some 60), 62, .load false 1 (.t 59), none, []⟩, ⟨(some 61), 63, .bin .eql (.t 60) (.c (.i .i64 0)), none, []⟩])
  (.cond (.t 61)
  (.seq (.ops [⟨(some 62), 64, .mv (.t 7), none, []⟩, ⟨(some 63), 65, .bin .eql (.t 62) (.c (.i .i64 2)), none, []⟩, ⟨(some 64), 66, .mv (.t 63), none, []⟩, ⟨(some 65), 67, .mv (.t 9), (some (64, true)), []⟩, ⟨(some 66), 68, .bin .eql (.t 65) (.c (.i .i64 2)), (some (64, true)), []⟩, ⟨(some 67), 69, .pick (.t 64) (.t 66) (.c (.b false)), none, []⟩, ⟨(some 2), 4, .mv (.t 67), none, []⟩])
  .ret)
  .skip))
  (.seq (.seq (.ops [⟨(some 68), 70, .mv (.t 7), none, []⟩, ⟨(some 69), 71, .bin .neq (.t 68) (.c (.i .i64 0)), none, []⟩, ⟨(some 70), 72, .mv (.t 69), none, []⟩, ⟨(some 71), 73, .mv (.t 9), (some (70, false)), []⟩, ⟨(some 72), 74, .bin .neq (.t 71) (.c (.i .i64 0)), (some (70, false)), []⟩, ⟨(some 73), 75, .pick (.t 70) (.c (.b true)) (.t 72), none, []⟩, ⟨(some 74), 76, .mv (.t 73), none, []⟩, ⟨(some 75), 77, .faddr 1 1 (.t 6), (some (74, false)), []⟩, ⟨(some 76), 78, .load false 1 (.t 75), (some (74, false)), []⟩, ⟨(some 77), 79, .faddr 1 1 (.t 5), (some (74, false)), []⟩, ⟨(some 78), 80, .load false 1 (.t 77), (some (74, false)), []⟩, ⟨(some 79), 81, .bin .mul (.t 76) (.t 78), (some (74, false)), []⟩, ⟨(some 80), 82, .faddr 1 1 (.t 8), (some (74, false)), []⟩, ⟨(some 81), 83, .load false 1 (.t 80), (some (74, false)), []⟩, ⟨(some 82), 84, .bin .add (.t 79) (.t 81), (some (74, false)), []⟩, ⟨(some 83), 85, .faddr 1 1 (.t 4), (some (74, false)), []⟩, ⟨(some 84), 86, .load false 1 (.t 83), (some (74, false)), []⟩, ⟨(some 85), 87, .bin .neq (.t 82) (.t 84), (some (74, false)), []⟩, ⟨(some 86), 88, .pick (.t 74) (.c (.b true)) (.t 85), none, []⟩])
  (.cond (.t 86)
  (.seq (.ops [⟨(some 2), 4, .mv (.c (.b false)), none, []⟩])
  .ret)
  .skip))
  (.seq (.seq (.ops [⟨(some 87), 89, .faddr 1 1 (.t 8), none, []⟩, ⟨(some 88), 90, .load false 1 (.t 87), none, []⟩, ⟨(some 89), 91, .bin .eql (.t 88) (.c (.i .i64 0)), none, []⟩])
  (.cond (.t 89)
  (.seq (.ops [⟨(some 2), 4, .mv (.c (.b true)), none, []⟩])
  .ret)
  .skip))
  (.seq (.seq (.ops [⟨(some 90), 92, .faddr 1 1 (.t 8), none, []⟩, ⟨(some 91), 93, .load false 1 (.t 90), none, []⟩, ⟨(some 92), 94, .bin .lss (.t 91) (.c (.i .i64 0)), none, []⟩, ⟨(some 93), 95, .faddr 1 1 (.t 4), none, []⟩, ⟨(some 94), 96, .load false 1 (.t 93), none, []⟩, ⟨(some 95), 97, .bin .lss (.t 94) (.c (.i .i64 0)), none, []⟩, ⟨(some 96), 98, .eqs true false [.b] (.t 92) (.t 95), none, []⟩])
  (.cond (.t 96)
  (.seq (.ops [⟨(some 2), 4, .mv (.c (.b false)), none, []⟩])
  .ret)
  .skip))
  (.seq (.draw [⟨(some 97), 99, .faddr 1 1 (.t 8), none, []⟩, ⟨(some 98), 100, .load false 1 (.t 97), none, []⟩, ⟨(some 99), 101, .faddr 1 1 (.t 5), none, []⟩, ⟨(some 100), 102, .load false 1 (.t 99), none, []⟩, ⟨(some 10), 12, .mv (.t 98), none, []⟩, ⟨(some 11), 13, .mv (.t 100), none, []⟩])
  (.seq (.seq (.ops [⟨(some 101), 103, .mv (.t 10), none, []⟩, ⟨(some 102), 104, .bin .gtr (.t 101) (.c (.i .i64 0)), none, []⟩])
  (.cond (.t 102)
  (.ops [⟨(some 103), 105, .mv (.t 10), none, []⟩, ⟨(some 104), 106, .un .neg (.t 103), none, []⟩, ⟨(some 10), 12, .mv (.t 104), none, []⟩])
  .skip))
  (.seq (.seq (.ops [⟨(some 105), 107, .mv (.t 11), none, []⟩, ⟨(some 106), 108, .bin .gtr (.t 105) (.c (.i .i64 0)), none, []⟩])
  (.cond (.t 106)
  (.ops [⟨(some 107), 109, .mv (.t 11), none, []⟩, ⟨(some 108), 110, .un .neg (.t 107), none, []⟩, ⟨(some 11), 13, .mv (.t 108), none, []⟩])
  .skip))
  (.seq (.ops [⟨(some 109), 111, .mv (.t 10), none, []⟩, ⟨(some 110), 112, .mv (.t 11), none, []⟩, ⟨(some 111), 113, .bin .gtr (.t 109) (.t 110), none, []⟩, ⟨(some 2), 4, .mv (.t 111), none, []⟩])
  .ret))))))))))))))
theorem k11 : compCode Try.prog Try.f11.ntmps Try.f11.body.get! = some c11 := by kernel_rfl
theorem r11 : resTmps Try.prog Try.f11.results.toList = some [.tmp 2] := by kernel_rfl

theorem opF_div {A B : Int} : opF 4 (1, A, 0, 0) (1, B, 0, 0) = if B = 0 then ((0, 0, 0, 0), 2) else ((1, IntKind.i64.wrap (A.tdiv B), 0, 0), 0) := by
  unfold opF
  rw [if_pos ⟨.inl ⟨rfl, rfl, rfl⟩, .inl ⟨rfl, rfl, rfl⟩, rfl⟩]
  rfl
theorem opF_mod {A B : Int} : opF 5 (1, A, 0, 0) (1, B, 0, 0) = if B = 0 then ((0, 0, 0, 0), 2) else ((1, A.tmod B, 0, 0), 0) := by
  unfold opF
  rw [if_pos ⟨.inl ⟨rfl, rfl, rfl⟩, .inl ⟨rfl, rfl, rfl⟩, rfl⟩]
  rfl
def fstC : TCode → TCode
  | .seq a _ => a
  | c => c
def sndC : TCode → TCode
  | .seq _ b => b
  | c => c
def restD : TCode := sndC (sndC (sndC (sndC c11)))
set_option maxRecDepth 100000 in
theorem c_restD : c11 = .seq (fstC c11) (.seq (fstC (sndC c11)) (.seq (fstC (sndC (sndC c11))) (.seq (fstC (sndC (sndC (sndC c11)))) restD))) := rfl
set_option maxRecDepth 100000 in
set_option maxHeartbeats 2000000 in
theorem tailD (A B : Int) (gA : in64 A) (gB : in64 B) (s : St) (q4 : s.t 4 = .pt [(6, 0)] 0 0) (q5 : s.t 5 = .pt [(7, 0)] 0 0) (qH : s.H = lk [(1, []), (6, [.po true [.i .i64 1, .i .i64 A, .f 0, .f 0]]), (7, [.po true [.i .i64 1, .i .i64 B, .f 0, .f 0]])]) :
    twp Try.prog restD (endW false [.b true] [] [] [.tmp 2]) s := by
  have h4 := w30 4 (1, A, 0, 0) (1, B, 0, 0)
  have h5 := w30 5 (1, A, 0, 0) (1, B, 0, 0)
  rw [opF_div] at h4
  rw [opF_mod] at h5
  unfold restD c11
  simp only [sndC]
  rw [nf_of qH]
  simp [q4, q5]
  by_cases hB : B = 0
  · rw [if_pos hB] at h4 h5
    refine callW_ms [.ro, .ro, .ro] ?_
    simp
    refine callX_of h4 (by simp [valV]) ?_
    simp [valV, q4, q5]
    refine callW_ms [.ro, .ro, .ro] ?_
    simp
    refine callX_of h5 (by simp [valV]) ?_
    simp [valV, q4, q5, hB]
  rw [if_neg hB] at h4 h5
  have hd := div_back (B := B) gA
  have hm := mod_abs (A := A) hB
  have hs := mod_sign (A := A) (B := B)
  generalize IntKind.i64.wrap (A.tdiv B) = q at *
  generalize A.tmod B = m at *
  refine callW_ms [.ro, .ro, .ro] ?_
  simp
  refine callX_of h4 (by simp [valV]) ?_
  simp [valV, q4, q5]
  refine callW_ms [.ro, .ro, .ro] ?_
  simp
  refine callX_of h5 (by simp [valV]) ?_
  simp [valV, q4, q5, hB, hd]
  intro hm0
  have e : decide (m < 0) = decide (A < 0) := decide_eq_decide.2 (hs hm0)
  have gm : -9223372036854775808 < m ∧ m < 9223372036854775808 := by unfold in64 at gB; omega
  have w1 : IntKind.i64.wrap (0 - m) = -m := by rw [wrap_id (by omega) (by omega)]; omega
  rw [e]
  have w2 : 0 < B → IntKind.i64.wrap (0 - B) = -B := fun h => by unfold in64 at gB; rw [wrap_id (by omega) (by omega)]; omega
  simp [q4, q5]
  refine ⟨fun c1 => ?_, fun c1 => ?_⟩
  · refine ⟨fun c2 => ?_, fun c2 => ?_⟩
    · have w3 := w2 c2
      simp only [Int.zero_sub] at w1 w3
      simp [w1, w3]
      omega
    · simp only [Int.zero_sub] at w1
      simp [w1]
      omega
  · refine ⟨fun c2 => ?_, fun c2 => ?_⟩
    · have w3 := w2 c2
      simp only [Int.zero_sub] at w3
      simp [w3]
      omega
    · omega
theorem at_in {bs : List Int} (i : Nat) (hi : i ≤ 10) (h : bytes bs) (hb : bs.length ≤ 1048576) : 0 ≤ atF bs i ∧ atF bs i ≤ 255 := by
  unfold atF
  split
  · rename_i x hx
    have := h x (List.mem_of_getElem? hx)
    rw [wrap_id (by omega) (by omega)]; exact this
  · have := tmod_in (a := (i : Int) * 7 + bs.length) (n := 256) (by omega) (by omega)
    omega
set_option maxHeartbeats 2000000 in
set_option maxRecDepth 100000 in
theorem w11 (bs : List Int) (hby : bytes bs) : Contract Try.prog false 11 [.ro] [.sl false 1 (bs.map uT)] [.b true] [] := by
  refine mk_contract [] Try.func11 (c := Try.f11.body.get!) (by kernel_rfl) k11 r11 (of_decide_eq_true rfl) fun _ => ?_
  have tl := tailD
  rw [c_restD]
  generalize restD = R at *
  simp only [fstC, sndC, c11]
  simp
  by_cases hbig : 1048576 < bs.length
  · refine callW_ms [.ro] ?_
    simp
    refine callX_of (w31 bs) (by simp) ?_
    simp [hbig]
  refine callW_ms [.ro] ?_
  simp
  refine callX_of (w31 bs) (by simp) ?_
  simp [hbig]
  obtain ⟨⟨op, a, b⟩, ⟨⟨fa, ga⟩, fb, gb⟩, hC⟩ := w33 bs (by omega)
  simp only at fa ga fb gb hC
  unfold valV at hC
  have hA0 := w32 bs 0 (by omega) (by omega)
  have hA1 := w32 bs 1 (by omega) (by omega)
  have r0 := at_in (bs := bs) 0 (by omega) hby (by omega)
  have r1 := at_in (bs := bs) 1 (by omega) hby (by omega)
  have wA : IntKind.i64.wrap (atF bs 0 - 128) = atF bs 0 - 128 := wrap_id (by omega) (by omega)
  have r2 := tmod_in (a := atF bs 1) (n := 9) (by omega) (by omega)
  have wB : IntKind.i64.wrap ((atF bs 1).tmod 9 - 4) = (atF bs 1).tmod 9 - 4 := wrap_id (by omega) (by omega)
  have gA : in64 (atF bs 0 - 128) := ⟨by omega, by omega⟩
  have gB : in64 ((atF bs 1).tmod 9 - 4) := ⟨by omega, by omega⟩
  refine callW_ms [.ro] ?_
  simp
  refine callX_of hC (by simp) ?_
  simp
  by_cases h1 : ValOkP a
  rotate_left
  · refine callW_ms [.ro] ?_
    simp
    refine callX_of ((w18 a fa).f h1) (by simp [valV]) ?_
    simp
    refine callW_ms [.ro, .ro] ?_
    simp
    refine callX_of hA0 (by simp) ?_
    simp [wA]
    refine callW_ms [.ro, .ro] ?_
    simp
    refine callX_of hA1 (by simp) ?_
    simp [wB]
    refine tl (atF bs 0 - 128) ((atF bs 1).tmod 9 - 4) gA gB _ ?_ ?_ ?_ <;> simp
  refine callW_ms [.ro] ?_
  simp
  refine callX_of ((w18 a fa).t h1) (by simp [valV]) ?_
  simp
  by_cases h2 : ValOkP b
  rotate_left
  · refine callW_ms [.ro] ?_
    simp
    refine callX_of ((w18 b fb).f h2) (by simp [valV]) ?_
    simp
    refine callW_ms [.ro, .ro] ?_
    simp
    refine callX_of hA0 (by simp) ?_
    simp [wA]
    refine callW_ms [.ro, .ro] ?_
    simp
    refine callX_of hA1 (by simp) ?_
    simp [wB]
    refine tl (atF bs 0 - 128) ((atF bs 1).tmod 9 - 4) gA gB _ ?_ ?_ ?_ <;> simp
  refine callW_ms [.ro] ?_
  simp
  refine callX_of ((w18 b fb).t h2) (by simp [valV]) ?_
  skip
  by_cases h3 : a.1 = 1
  rotate_left
  · simp [h3]
    refine callW_ms [.ro, .ro] ?_
    simp
    refine callX_of hA0 (by simp) ?_
    simp [wA]
    refine callW_ms [.ro, .ro] ?_
    simp
    refine callX_of hA1 (by simp) ?_
    simp [wB]
    refine tl (atF bs 0 - 128) ((atF bs 1).tmod 9 - 4) gA gB _ ?_ ?_ ?_ <;> simp
  by_cases h4 : b.1 = 1
  rotate_left
  · simp [h3, h4]
    refine callW_ms [.ro, .ro] ?_
    simp
    refine callX_of hA0 (by simp) ?_
    simp [wA]
    refine callW_ms [.ro, .ro] ?_
    simp
    refine callX_of hA1 (by simp) ?_
    simp [wB]
    refine tl (atF bs 0 - 128) ((atF bs 1).tmod 9 - 4) gA gB _ ?_ ?_ ?_ <;> simp
  have ea : a.2.2.1 = 0 ∧ a.2.2.2 = 0 := by rcases h1 with h | h | h | h <;> first | exact h.2 | omega
  have eb : b.2.2.1 = 0 ∧ b.2.2.2 = 0 := by rcases h2 with h | h | h | h <;> first | exact h.2 | omega
  simp [h3, h4]
  refine tl a.2.1 b.2.1 ga gb _ ?_ ?_ ?_ <;> simp [h3, h4, ea, eb]
end Go.Proofs.YtpoalnlkhlchbaaT
