/- FnNegs. -/
import Derived.Test.YtpoalnlkhlchbaaKq6
namespace Go.Proofs.YtpoalnlkhlchbaaT
set_option linter.unusedVariables false
set_option linter.unusedSimpArgs false
open Go

/- laws.FnNegs -/
def c12 : TCode := (.seq (.ops [⟨(some 2), 4, .mv (.c (.b false)), none, []⟩])
  (.seq (.seq (.ops [⟨(some 17), 19, .mv (.t 0), none, []⟩, ⟨(some 18), 20, .call 31 [((.t 17), 0)], none, []⟩])
  (.cond (.t 18)
  (.seq (.ops [⟨(some 2), 4, .mv (.c (.b true)), none, []⟩])
  .ret)
  .skip))
  (.seq (.ops [⟨(some 20), 22, .mv (.t 0), none, []⟩, ⟨(some 21), 23, .call 34 [((.t 20), 0)], none, []⟩, ⟨(some 19), 21, .mv (.t 21), none, []⟩, ⟨(some 22), 24, .ext 0 (.t 19), none, []⟩, ⟨(some 23), 25, .ext 1 (.t 19), none, []⟩, ⟨(some 4), 6, .box 4 (.c (.ag [(.i .i64 0), (.i .i64 0), (.f 0), (.f 0)])), none, []⟩, ⟨(some 3), 5, .mv (.t 22), none, []⟩, ⟨none, 1003007, .store 4 (.t 4) (.t 23), none, []⟩])
  (.seq (.ops [⟨(some 25), 27, .mv (.t 3), none, []⟩, ⟨(some 26), 28, .load true 4 (.t 4), none, []⟩, ⟨(some 27), 29, .call 28 [((.t 25), 0), ((.t 26), 0)], none, []⟩, ⟨(some 24), 26, .mv (.t 27), none, []⟩, ⟨(some 28), 30, .ext 0 (.t 24), none, []⟩, ⟨(some 29), 31, .ext 1 (.t 24), none, []⟩, ⟨(some 5), 7, .box 4 (.c (.ag [(.i .i64 0), (.i .i64 0), (.f 0), (.f 0)])), none, []⟩, ⟨none, 1004007, .store 4 (.t 5) (.t 28), none, []⟩, ⟨(some 6), 8, .mv (.t 29), none, []⟩])
  (.seq (.ops [⟨(some 31), 33, .mv (.t 3), none, []⟩, ⟨(some 32), 34, .load true 4 (.t 4), none, []⟩, ⟨(some 33), 35, .call 27 [((.t 31), 0), ((.t 32), 0)], none, []⟩, ⟨(some 30), 32, .mv (.t 33), none, []⟩, ⟨(some 34), 36, .ext 0 (.t 30), none, []⟩, ⟨(some 35), 37, .ext 1 (.t 30), none, []⟩, ⟨(some 7), 9, .box 4 (.c (.ag [(.i .i64 0), (.i .i64 0), (.f 0), (.f 0)])), none, []⟩, ⟨none, 1005007, .store 4 (.t 7) (.t 34), none, []⟩, ⟨(some 8), 10, .mv (.t 35), none, []⟩])
  (.seq (.seq (.ops [⟨(some 36), 38, .mv (.t 6), none, []⟩, ⟨(some 37), 39, .mv (.t 8), none, []⟩, ⟨(some 38), 40, .bin .neq (.t 36) (.t 37), none, []⟩, ⟨(some 39), 41, .mv (.t 38), none, []⟩, ⟨(some 40), 42, .load true 4 (.t 5), (some (39, false)), []⟩, ⟨(some 41), 43, .load true 4 (.t 7), (some (39, false)), []⟩, ⟨(some 42), 44, .call 15 [((.t 40), 0), ((.t 41), 0)], (some (39, false)), []⟩, ⟨(some 43), 45, .un .not (.t 42), (some (39, false)), []⟩, ⟨(some 44), 46, .pick (.t 39) (.c (.b true)) (.t 43), none, []⟩])
  (.cond (.t 44)
  (.seq (.ops [⟨(some 2), 4, .mv (.c (.b false)), none, []⟩])
  .ret)
  .skip))
  (.seq (.seq (.ops [⟨(some 45), 47, .mv (.t 8), none, []⟩, ⟨(some 46), 48, .bin .eql (.t 45) (.c (.i .i64 0)), none, []⟩, ⟨(some 47), 49, .mv (.t 46), none, []⟩, ⟨(some 48), 50, .mv (.t 3), (some (47, true)), []⟩, ⟨(some 49), 51, .bin .leq (.t 48) (.c (.i .i64 2)), (some (47, true)), []⟩, ⟨(some 50), 52, .pick (.t 47) (.t 49) (.c (.b false)), none, []⟩])
  (.cond (.t 50)
  (.seq (.ops [⟨(some 52), 54, .mv (.t 3), none, []⟩, ⟨(some 53), 55, .load true 4 (.t 5), none, []⟩, ⟨(some 54), 56, .call 28 [((.t 52), 0), ((.t 53), 0)], none, []⟩, ⟨(some 51), 53, .mv (.t 54), none, []⟩, ⟨(some 55), 57, .ext 0 (.t 51), none, []⟩, ⟨(some 56), 58, .ext 1 (.t 51), none, []⟩, ⟨(some 9), 11, .box 4 (.c (.ag [(.i .i64 0), (.i .i64 0), (.f 0), (.f 0)])), none, []⟩, ⟨none, 1009007, .store 4 (.t 9) (.t 55), none, []⟩, ⟨(some 10), 12, .mv (.t 56), none, []⟩])
  (.seq (.ops [⟨(some 57), 59, .mv (.t 10), none, []⟩, ⟨(some 58), 60, .bin .neq (.t 57) (.c (.i .i64 0)), none, []⟩, ⟨(some 59), 61, .mv (.t 58), none, []⟩, ⟨(some 60), 62, .load true 4 (.t 9), (some (59, false)), []⟩, ⟨(some 61), 63, .load true 4 (.t 4), (some (59, false)), []⟩, ⟨(some 62), 64, .call 15 [((.t 60), 0), ((.t 61), 0)], (some (59, false)), []⟩, ⟨(some 63), 65, .un .not (.t 62), (some (59, false)), []⟩, ⟨(some 64), 66, .pick (.t 59) (.c (.b true)) (.t 63), none, []⟩])
  (.cond (.t 64)
  (.seq (.ops [⟨(some 2), 4, .mv (.c (.b false)), none, []⟩])
  .ret)
  .skip)))
  .skip))
  (.seq (.seq (.ops [⟨(some 65), 67, .load true 4 (.t 4), none, []⟩, ⟨(some 66), 68, .call 18 [((.t 65), 0)], none, []⟩, ⟨(some 67), 69, .un .not (.t 66), none, []⟩, ⟨(some 68), 70, .mv (.t 67), none, []⟩, ⟨(some 69), 71, .faddr 0 1 (.t 4), (some (68, false)), []⟩, ⟨(some 70), 72, .load false 1 (.t 69), (some (68, false)), []⟩, ⟨(some 71), 73, .bin .neq (.t 70) (.c (.i .i64 3)), (some (68, false)), []⟩, ⟨(some 72), 74, .pick (.t 68) (.c (.b true)) (.t 71), none, []⟩])
  (.cond (.t 72)
  (.seq (.ops [⟨(some 2), 4, .mv (.c (.b true)), none, []⟩])
  .ret)
  .skip))
  (.seq (.ops [⟨(some 74), 76, .load true 4 (.t 4), none, []⟩, ⟨(some 75), 77, .call 28 [((.c (.i .i64 3)), 0), ((.t 74), 0)], none, []⟩, ⟨(some 73), 75, .mv (.t 75), none, []⟩, ⟨(some 76), 78, .ext 0 (.t 73), none, []⟩, ⟨(some 77), 79, .ext 1 (.t 73), none, []⟩, ⟨(some 11), 13, .box 4 (.c (.ag [(.i .i64 0), (.i .i64 0), (.f 0), (.f 0)])), none, []⟩, ⟨none, 1014006, .store 4 (.t 11) (.t 76), none, []⟩, ⟨(some 12), 14, .mv (.t 77), none, []⟩])
  (.seq (.ops [⟨(some 79), 81, .load true 4 (.t 4), none, []⟩, ⟨(some 80), 82, .call 28 [((.c (.i .i64 4)), 0), ((.t 79), 0)], none, []⟩, ⟨(some 78), 80, .mv (.t 80), none, []⟩, ⟨(some 81), 83, .ext 0 (.t 78), none, []⟩, ⟨(some 82), 84, .ext 1 (.t 78), none, []⟩, ⟨(some 13), 15, .box 4 (.c (.ag [(.i .i64 0), (.i .i64 0), (.f 0), (.f 0)])), none, []⟩, ⟨none, 1015006, .store 4 (.t 13) (.t 81), none, []⟩, ⟨(some 14), 16, .mv (.t 82), none, []⟩])
  (.seq (.ops [⟨(some 84), 86, .load true 4 (.t 11), none, []⟩, ⟨(some 85), 87, .load true 4 (.t 13), none, []⟩, ⟨(some 86), 88, .call 24 [((.t 84), 0), ((.t 85), 0)], none, []⟩, ⟨(some 83), 85, .mv (.t 86), none, []⟩, ⟨(some 87), 89, .ext 0 (.t 83), none, []⟩, ⟨(some 88), 90, .ext 1 (.t 83), none, []⟩, ⟨(some 15), 17, .box 4 (.c (.ag [(.i .i64 0), (.i .i64 0), (.f 0), (.f 0)])), none, []⟩, ⟨none, 1016007, .store 4 (.t 15) (.t 87), none, []⟩, ⟨(some 16), 18, .mv (.t 88), none, []⟩])
  (.seq (.draw [⟨(some 89), 91, .mv (.t 16), none, []⟩, ⟨(some 90), 92, .mv (.t 89), none, []⟩, ⟨(some 91), 93, .load true 4 (.t 15), (some (90, true)), []⟩, ⟨(some 92), 94, .load true 4 (.t 4), (some (90, true)), []⟩, ⟨(some 93), 95, .call 15 [((.t 91), 0), ((.t 92), 0)], (some (90, true)), []⟩, ⟨(some 94), 96, .pick (.t 90) (.t 93) (.c (.b false)), none, []⟩, ⟨(some 95), 97, .mv (.t 94), none, []⟩, ⟨(some 96), 98, .load true 4 (.t 15), (some (95, true)), []⟩, ⟨(some 97), 99, .call 26 [((.t 96), 0)], (some (95, true)), []⟩, ⟨(some 98), 100, .load true 4 (.t 4), (some (95, true)), [8]⟩, ⟨(some 99), 101, .call 25 [((.t 98), 0)], (some (95, true)), []⟩, ⟨(some 100), 102, .bin .eql (.t 97) (.t 99), (some (95, true)), []⟩, ⟨(some 101), 103, .pick (.t 95) (.t 100) (.c (.b false)), none, []⟩, ⟨(some 2), 4, .mv (.t 101), none, []⟩])
  .ret))))))))))))
theorem k12 : compCode Try.prog Try.f12.ntmps Try.f12.body.get! = some c12 := by kernel_rfl
theorem r12 : resTmps Try.prog Try.f12.results.toList = some [.tmp 2] := by kernel_rfl

def fstN : TCode → TCode
  | .seq a _ => a
  | c => c
def sndN : TCode → TCode
  | .seq _ b => b
  | c => c
def restN : TCode := sndN (sndN (sndN (sndN (sndN (sndN (sndN c12))))))
set_option maxRecDepth 100000 in
theorem c_restN : c12 = .seq (fstN c12) (.seq (fstN (sndN c12)) (.seq (fstN (sndN (sndN c12))) (.seq (fstN (sndN (sndN (sndN c12)))) (.seq (fstN (sndN (sndN (sndN (sndN c12))))) (.seq (fstN (sndN (sndN (sndN (sndN (sndN c12)))))) (.seq (fstN (sndN (sndN (sndN (sndN (sndN (sndN c12))))))) restN)))))) := rfl
set_option maxRecDepth 100000 in
set_option maxHeartbeats 2000000 in
theorem tailN1 (v x : ValP) (fv : valOkF v) (gv : in64 v.2.1) (s : St) (q4 : s.t 4 = .pt [(6, 0)] 0 0) (qH : s.H = lk [(1, []), (6, [.po true [.i .i64 v.1, .i .i64 v.2.1, .f v.2.2.1, .f v.2.2.2]]), (7, [.po true [.i .i64 x.1, .i .i64 x.2.1, .f x.2.2.1, .f x.2.2.2]]), (9, [.po true [.i .i64 x.1, .i .i64 x.2.1, .f x.2.2.1, .f x.2.2.2]])]) :
    twp Try.prog restN (endW false [.b true] [] [] [.tmp 2]) s := by
  have hi : i64in' v.2.1 := by unfold in64 at gv; exact ⟨gv.1, by omega⟩
  unfold restN c12
  simp only [sndN]
  rw [nf_of qH]
  simp [q4]
  by_cases hk : ValOkP v
  rotate_left
  · refine callW_ms [.ro] ?_
    simp
    refine callX_of ((w18 v fv).f hk) (by simp [valV]) ?_
    simp
  refine callW_ms [.ro] ?_
  simp
  refine callX_of ((w18 v fv).t hk) (by simp [valV]) ?_
  by_cases h3 : v.1 = 3
  rotate_left
  · simp [h3, q4]
  obtain ⟨p1, p2, p3⟩ := turn_parts hk h3
  have hre := w28 3 v
  have him := w28 4 v
  have hp := w24 (2, 0, v.2.2.1, 0) (2, 0, v.2.2.2, 0)
  rw [p1] at hre
  rw [p2] at him
  rw [p3] at hp
  have hvv := (w15 v v fv fv).t rfl
  have ht1 := w26 v hi
  have ht2 := w25 v fv hi
  simp only [valV, h3] at hre him hp hvv ht1 ht2
  simp [h3, q4]
  refine callW_ms [.ro, .ro] ?_
  simp
  refine callX_of hre (by simp) ?_
  simp [q4]
  refine callW_ms [.ro, .ro] ?_
  simp
  refine callX_of him (by simp) ?_
  simp [q4]
  refine callW_ms [.ro, .ro] ?_
  simp
  refine callX_of hp (by simp) ?_
  simp [q4]
  refine callW_ms [.ro, .ro] ?_
  simp
  refine callX_of hvv (by simp) ?_
  simp [q4]
  refine callW_ms [.ro] ?_
  simp
  refine callX_of ht1 (by simp) ?_
  simp [q4]
  refine callW_ms [.ro] ?_
  simp
  refine callX_of ht2 (by simp) ?_
  simp
set_option maxRecDepth 100000 in
set_option maxHeartbeats 2000000 in
theorem tailN2 (v x : ValP) (fv : valOkF v) (gv : in64 v.2.1) (s : St) (q4 : s.t 4 = .pt [(6, 0)] 0 0) (qH : s.H = lk [(1, []), (6, [.po true [.i .i64 v.1, .i .i64 v.2.1, .f v.2.2.1, .f v.2.2.2]]), (7, [.po true [.i .i64 x.1, .i .i64 x.2.1, .f x.2.2.1, .f x.2.2.2]]), (9, [.po true [.i .i64 x.1, .i .i64 x.2.1, .f x.2.2.1, .f x.2.2.2]]), (11, [.po true [.i .i64 v.1, .i .i64 v.2.1, .f v.2.2.1, .f v.2.2.2]])]) :
    twp Try.prog restN (endW false [.b true] [] [] [.tmp 2]) s := by
  have hi : i64in' v.2.1 := by unfold in64 at gv; exact ⟨gv.1, by omega⟩
  unfold restN c12
  simp only [sndN]
  rw [nf_of qH]
  simp [q4]
  by_cases hk : ValOkP v
  rotate_left
  · refine callW_ms [.ro] ?_
    simp
    refine callX_of ((w18 v fv).f hk) (by simp [valV]) ?_
    simp
  refine callW_ms [.ro] ?_
  simp
  refine callX_of ((w18 v fv).t hk) (by simp [valV]) ?_
  by_cases h3 : v.1 = 3
  rotate_left
  · simp [h3, q4]
  obtain ⟨p1, p2, p3⟩ := turn_parts hk h3
  have hre := w28 3 v
  have him := w28 4 v
  have hp := w24 (2, 0, v.2.2.1, 0) (2, 0, v.2.2.2, 0)
  rw [p1] at hre
  rw [p2] at him
  rw [p3] at hp
  have hvv := (w15 v v fv fv).t rfl
  have ht1 := w26 v hi
  have ht2 := w25 v fv hi
  simp only [valV, h3] at hre him hp hvv ht1 ht2
  simp [h3, q4]
  refine callW_ms [.ro, .ro] ?_
  simp
  refine callX_of hre (by simp) ?_
  simp [q4]
  refine callW_ms [.ro, .ro] ?_
  simp
  refine callX_of him (by simp) ?_
  simp [q4]
  refine callW_ms [.ro, .ro] ?_
  simp
  refine callX_of hp (by simp) ?_
  simp [q4]
  refine callW_ms [.ro, .ro] ?_
  simp
  refine callX_of hvv (by simp) ?_
  simp [q4]
  refine callW_ms [.ro] ?_
  simp
  refine callX_of ht1 (by simp) ?_
  simp [q4]
  refine callW_ms [.ro] ?_
  simp
  refine callX_of ht2 (by simp) ?_
  simp
set_option maxHeartbeats 2000000 in
set_option maxRecDepth 100000 in
theorem w12 (bs : List Int) : Contract Try.prog false 12 [.ro] [.sl false 1 (bs.map uT)] [.b true] [] := by
  refine mk_contract [] Try.func12 (c := Try.f12.body.get!) (by kernel_rfl) k12 r12 (of_decide_eq_true rfl) fun _ => ?_
  have tl1 := tailN1
  have tl2 := tailN2
  rw [c_restN]
  generalize restN = R at *
  simp only [fstN, sndN, c12]
  simp
  by_cases hbig : 1048576 < bs.length
  · refine callW_ms [.ro] ?_
    simp
    refine callX_of (w31 bs) (by simp) ?_
    simp [hbig]
  refine callW_ms [.ro] ?_
  simp
  refine callX_of (w31 bs) (by simp) ?_
  simp [hbig]
  obtain ⟨⟨op, v⟩, ⟨fv, gv⟩, hC⟩ := w34 bs (by omega)
  simp only at fv gv hC
  unfold valV at hC
  refine callW_ms [.ro] ?_
  simp
  refine callX_of hC (by simp) ?_
  simp
  have hx := w28 op v
  have hs := w27 op v fv
  have fF := turnF_F op fv
  have hv := (w15 (turnF op v).1 (turnF op v).1 fF fF).t rfl
  have hvv := (w15 v v fv fv).t rfl
  have hy := w28 op (turnF op v).1
  have h2 : op ≤ 2 → (turnF op v).2 = 0 → turnF op (turnF op v).1 = (v, 0) := fun h1 h2 => turn_twice fv gv h1 h2
  generalize hR : turnF op v = R1 at *
  obtain ⟨x, xc⟩ := R1
  simp only [valV] at hx hs hv hvv hy h2
  refine callW_ms [.ro, .ro] ?_
  simp
  refine callX_of hx (by simp) ?_
  simp
  refine callW_ms [.ro, .ro] ?_
  simp
  refine callX_of hs (by simp) ?_
  simp
  refine callW_ms [.ro, .ro] ?_
  simp
  refine callX_of hv (by simp) ?_
  simp
  by_cases h0 : xc = 0
  rotate_left
  · simp [h0]
    refine tl1 v x fv gv _ ?_ ?_ <;> simp
  subst h0
  simp
  refine ⟨fun ho => ?_, fun ho => ?_⟩
  rotate_left
  · refine tl1 v x fv gv _ ?_ ?_ <;> simp
  rw [h2 ho rfl] at hy
  refine callW_ms [.ro, .ro] ?_
  simp
  refine callX_of hy (by simp) ?_
  simp
  refine callW_ms [.ro, .ro] ?_
  simp
  refine callX_of hvv (by simp) ?_
  simp
  refine tl2 v x fv gv _ ?_ ?_ <;> simp
end Go.Proofs.YtpoalnlkhlchbaaT
