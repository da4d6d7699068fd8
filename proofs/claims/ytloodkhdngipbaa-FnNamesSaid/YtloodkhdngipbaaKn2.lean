/- Names. -/
import Derived.Test.YtloodkhdngipbaaKn1
import Derived.Test.YtloodkhdngipbaaKi
namespace Go.Proofs.YtloodkhdngipbaaT
set_option linter.unusedVariables false
set_option linter.unusedSimpArgs false
open Go

/- laws.FnNames -/
def c11 : TCode := (.seq (.ops [⟨(some 2), 4, .mv (.c (.b false)), none, []⟩])
  (.seq (.seq (.ops [⟨(some 7), 9, .mv (.t 0), none, []⟩, ⟨(some 8), 10, .call 32 [((.t 7), 0)], none, []⟩])
  (.cond (.t 8)
  (.seq (.ops [⟨(some 2), 4, .mv (.c (.b true)), none, []⟩])
  .ret)
  .skip))
  (.seq (.ops [⟨(some 9), 11, .mv (.t 0), none, []⟩, ⟨(some 10), 12, .call 48 [((.t 9), 0)], none, []⟩, ⟨(some 3), 5, .box 3 (.c (.ag [(.sl true 2 []), (.sl true 2 []), (.sl true 2 [])])), none, []⟩, ⟨none, 1003003, .store 3 (.t 3) (.t 10), none, []⟩])
  (.seq (.ops [⟨(some 11), 13, .load true 3 (.t 3), none, []⟩, ⟨(some 12), 14, .call 49 [((.t 11), 0)], none, []⟩, ⟨(some 4), 6, .mv (.t 12), none, []⟩])
  (.seq (.seq (.ops [⟨(some 13), 15, .mv (.t 4), none, []⟩, ⟨(some 14), 16, .load true 3 (.t 3), none, []⟩, ⟨(some 15), 17, .call 50 [((.t 14), 0)], none, []⟩, ⟨(some 16), 18, .eqs true false [.b] (.t 13) (.t 15), none, []⟩])
  (.cond (.t 16)
  (.seq (.ops [⟨(some 2), 4, .mv (.c (.b false)), none, []⟩])
  .ret)
  .skip))
  (.seq (.seq (.ops [⟨(some 5), 7, .mv (.c (.i .i64 0)), none, []⟩])
  (.block 0 (.loop (.seq (.seq (.ops [⟨(some 17), 19, .mv (.t 5), none, []⟩, ⟨(some 18), 20, .faddr 0 1 (.t 3), none, []⟩, ⟨(some 19), 21, .load false 1 (.t 18), none, []⟩, ⟨(some 20), 22, .len false (.t 19), none, []⟩, ⟨(some 21), 23, .bin .lss (.t 17) (.t 20), none, []⟩, ⟨(some 22), 24, .mv (.t 21), none, []⟩, ⟨(some 23), 25, .mv (.t 5), (some (22, true)), []⟩, ⟨(some 24), 26, .bin .lss (.t 23) (.c (.i .i64 20)), (some (22, true)), []⟩, ⟨(some 25), 27, .pick (.t 22) (.t 24) (.c (.b false)), none, []⟩])
  (.cond (.t 25)
  .skip
  (.exit 0)))
  (.seq (.block 1 (.seq (.ops [⟨(some 28), 30, .faddr 0 1 (.t 3), none, []⟩, ⟨(some 29), 31, .load false 1 (.t 28), none, []⟩, ⟨(some 30), 32, .mv (.t 5), none, []⟩, ⟨(some 31), 33, .iaddr 2 (.t 29) (.t 30), none, []⟩, ⟨(some 32), 34, .faddr 0 1 (.t 31), none, []⟩, ⟨(some 33), 35, .load false 1 (.t 32), none, []⟩, ⟨(some 6), 8, .mv (.t 33), none, []⟩])
  (.seq (.seq (.ops [⟨(some 34), 36, .mv (.t 4), none, []⟩, ⟨(some 35), 37, .un .not (.t 34), none, []⟩])
  (.cond (.t 35)
  (.seq (.seq (.ops [⟨(some 36), 38, .load true 3 (.t 3), none, []⟩, ⟨(some 37), 39, .mv (.t 6), none, []⟩, ⟨(some 38), 40, .call 51 [((.t 36), 0), ((.c (.i .i64 1)), 0), ((.t 37), 0)], none, []⟩, ⟨(some 39), 41, .bin .neq (.t 38) (.c (.i .i64 (-1))), none, []⟩, ⟨(some 40), 42, .mv (.t 39), none, []⟩, ⟨(some 41), 43, .load true 3 (.t 3), (some (40, false)), []⟩, ⟨(some 42), 44, .mv (.t 5), (some (40, false)), []⟩, ⟨(some 43), 45, .call 52 [((.t 41), 0), ((.c (.i .i64 1)), 0), ((.t 42), 0)], (some (40, false)), []⟩, ⟨(some 44), 46, .bin .neq (.t 43) (.c (.i .i64 0)), (some (40, false)), []⟩, ⟨(some 45), 47, .pick (.t 40) (.c (.b true)) (.t 44), none, []⟩])
  (.cond (.t 45)
  (.seq (.ops [⟨(some 2), 4, .mv (.c (.b false)), none, []⟩])
  .ret)
  .skip))
  (.exit 1))
  .skip))
  (.seq (.draw [⟨(some 46), 48, .load true 3 (.t 3), none, []⟩, ⟨(some 47), 49, .mv (.t 6), none, []⟩, ⟨(some 48), 50, .call 51 [((.t 46), 0), ((.c (.i .i64 1)), 0), ((.t 47), 0)], none, []⟩, ⟨(some 49), 51, .mv (.t 5), none, [2]⟩, ⟨(some 50), 52, .bin .neq (.t 48) (.t 49), none, []⟩, ⟨(some 51), 53, .mv (.t 50), none, []⟩, ⟨(some 52), 54, .load true 3 (.t 3), (some (51, false)), []⟩, ⟨(some 53), 55, .mv (.t 5), (some (51, false)), []⟩, ⟨(some 54), 56, .call 52 [((.t 52), 0), ((.c (.i .i64 1)), 0), ((.t 53), 0)], (some (51, false)), []⟩, ⟨(some 55), 57, .faddr 0 1 (.t 3), (some (51, false)), [8]⟩, ⟨(some 56), 58, .load false 1 (.t 55), (some (51, false)), [8]⟩, ⟨(some 57), 59, .mv (.t 5), (some (51, false)), [8]⟩, ⟨(some 58), 60, .iaddr 2 (.t 56) (.t 57), (some (51, false)), [8]⟩, ⟨(some 59), 61, .faddr 1 1 (.t 58), (some (51, false)), [8]⟩, ⟨(some 60), 62, .load false 1 (.t 59), (some (51, false)), [8]⟩, ⟨(some 61), 63, .bin .neq (.t 54) (.t 60), (some (51, false)), []⟩, ⟨(some 62), 64, .pick (.t 51) (.c (.b true)) (.t 61), none, []⟩, ⟨(some 63), 65, .mv (.t 62), none, []⟩, ⟨(some 64), 66, .load true 3 (.t 3), (some (63, false)), []⟩, ⟨(some 65), 67, .mv (.t 6), (some (63, false)), []⟩, ⟨(some 66), 68, .call 51 [((.t 64), 0), ((.c (.i .i64 2)), 0), ((.t 65), 0)], (some (63, false)), []⟩, ⟨(some 67), 69, .bin .neq (.t 66) (.c (.i .i64 (-1))), (some (63, false)), []⟩, ⟨(some 68), 70, .pick (.t 63) (.c (.b true)) (.t 67), none, []⟩, ⟨(some 69), 71, .mv (.t 68), none, []⟩, ⟨(some 70), 72, .load true 3 (.t 3), (some (69, false)), []⟩, ⟨(some 71), 73, .mv (.t 6), (some (69, false)), []⟩, ⟨(some 72), 74, .call 51 [((.t 70), 0), ((.c (.i .i64 3)), 0), ((.t 71), 0)], (some (69, false)), []⟩, ⟨(some 73), 75, .bin .neq (.t 72) (.c (.i .i64 (-1))), (some (69, false)), []⟩, ⟨(some 74), 76, .pick (.t 69) (.c (.b true)) (.t 73), none, []⟩, ⟨(some 75), 77, .mv (.t 74), none, []⟩, ⟨(some 76), 78, .mv (.t 6), (some (75, false)), []⟩, ⟨(some 77), 79, .call 53 [((.t 76), 0)], (some (75, false)), []⟩, ⟨(some 78), 80, .pick (.t 75) (.c (.b true)) (.t 77), none, []⟩])
  (.cond (.t 78)
  (.seq (.ops [⟨(some 2), 4, .mv (.c (.b false)), none, []⟩])
  .ret)
  .skip)))))
  (.ops [⟨(some 26), 28, .mv (.t 5), none, []⟩, ⟨(some 27), 29, .bin .add (.t 26) (.c (.i .i64 1)), none, []⟩, ⟨(some 5), 7, .mv (.t 27), none, []⟩]))))))
  (.seq (.ops [⟨(some 79), 81, .call 53 [((.c (.s ⟨#[119, 105, 116, 104, 111, 117, 116]⟩)), 0)], none, []⟩, ⟨(some 80), 82, .mv (.t 79), none, []⟩, ⟨(some 81), 83, .call 54 [((.c (.s ⟨#[112, 105, 99, 107]⟩)), 0)], (some (80, true)), []⟩, ⟨(some 82), 84, .un .not (.t 81), (some (80, true)), []⟩, ⟨(some 83), 85, .pick (.t 80) (.t 82) (.c (.b false)), none, []⟩, ⟨(some 84), 86, .mv (.t 83), none, []⟩, ⟨(some 85), 87, .call 54 [((.c (.s ⟨#[112, 105, 99, 107, 115]⟩)), 0)], (some (84, true)), []⟩, ⟨(some 86), 88, .pick (.t 84) (.t 85) (.c (.b false)), none, []⟩, ⟨(some 2), 4, .mv (.t 86), none, []⟩])
  .ret)))))))
theorem k11 : compCode Try.prog Try.f11.ntmps Try.f11.body.get! = some c11 := by kernel_rfl
theorem r11 : resTmps Try.prog Try.f11.results.toList = some [.tmp 2] := by kernel_rfl

theorem names_ne {c r e : DcP} (h : RegOkP c r e) {i : Nat} {d : ByteArray × Int} (hd : c[i]? = some d) :
    (∀ y ∈ c.take i, nameIs d.1 y = false) ∧ (∀ y ∈ r, nameIs d.1 y = false) ∧ (∀ y ∈ e, nameIs d.1 y = false) ∧ goodD d := by
  obtain ⟨-, hg, hn⟩ := h
  rw [List.map_append, List.map_append] at hn
  have h1 := List.nodup_append.1 hn
  have h2 := List.nodup_append.1 h1.1
  have hm := List.mem_of_getElem? hd
  have hdm : d.1 ∈ c.map (·.1) := List.mem_map_of_mem hm
  refine ⟨fun y hy => ?_, fun y hy => ?_, fun y hy => ?_, hg d (by simp [hm])⟩
  · obtain ⟨k, hk1, hk2⟩ := List.mem_iff_getElem.1 hy
    rw [List.length_take] at hk1
    rw [List.getElem_take] at hk2
    have hlt := (List.getElem?_eq_some_iff.1 hd).1
    have hde := (List.getElem?_eq_some_iff.1 hd).2
    simp only [nameIs, decide_eq_false_iff_not]
    intro he
    have hp := List.pairwise_iff_getElem.1 h2.1 k i (by rw [List.length_map]; omega) (by rw [List.length_map]; omega) (by omega)
    rw [List.getElem_map, List.getElem_map] at hp
    apply hp
    rw [hde, hk2]; exact he
  · simp only [nameIs, decide_eq_false_iff_not]
    intro he
    exact h2.2.2 _ hdm _ (List.mem_map_of_mem hy) he.symm
  · simp only [nameIs, decide_eq_false_iff_not]
    intro he
    exact h1.2.2 _ (List.mem_append_left _ hdm) _ (List.mem_map_of_mem hy) he.symm
theorem word_without : (⟨#[119, 105, 116, 104, 111, 117, 116]⟩ : ByteArray) ∈ words := by decide
theorem name_pick : ¬ nameP ⟨#[112, 105, 99, 107]⟩ := fun h => h.2.2 (by decide)
theorem name_picks : nameP ⟨#[112, 105, 99, 107, 115]⟩ := by
  refine ⟨⟨by decide, by decide⟩, ?_, by decide⟩
  intro j hj b hb
  match j, hj with
  | 0, _ => cases hb; decide
  | 1, _ => cases hb; decide
  | 2, _ => cases hb; decide
  | 3, _ => cases hb; decide
  | 4, _ => cases hb; decide
  | j + 5, hj => exact absurd hj (by show ¬ (j + 5 < 5); omega)
set_option maxHeartbeats 2000000 in
set_option maxRecDepth 100000 in
theorem w11 (bs : List Int) : Contract Try.prog false 11 [.ro] [.sl false 1 (bs.map uT)] [.b true] [] := by
  refine mk_contract [] Try.func11 (c := Try.f11.body.get!) (by kernel_rfl) k11 r11 (of_decide_eq_true rfl) fun _ => ?_
  unfold c11; simp
  by_cases hbig : 1048576 < bs.length
  · refine callW_ms [.ro] ?_
    simp
    refine callX_of (w32 bs) (by simp) ?_
    simp [hbig]
  refine callW_ms [.ro] ?_
  simp
  refine callX_of (w32 bs) (by simp) ?_
  simp [hbig]
  obtain ⟨⟨c, r, e⟩, ⟨s1, s2, s3⟩, hC⟩ := w48 bs (by omega)
  simp only at s1 s2 s3 hC
  unfold regO at hC
  have l1 := s1.1
  have l2 := s2.1
  have l3 := s3.1
  have hs : ∀ l ∈ [c, r, e], ∀ d ∈ l, d.1.size ≤ 2^40 := by
    intro l hl d hd
    simp only [List.mem_cons, List.not_mem_nil, or_false] at hl
    rcases hl with rfl | rfl | rfl
    · have := s1.2 d hd; omega
    · have := s2.2 d hd; omega
    · have := s3.2 d hd; omega
  have hI := w49 c r e (by omega) (by omega) (by omega) hs
  have hS := w50 c r e (by omega) (by omega) (by omega)
  have hF := fun s x => w51 c r e s x (by omega) (by omega) (by omega) hs
  have hK := fun s a => w52 c r e s a (by omega) (by omega) (by omega) hs
  refine callW_ms [.ro] ?_
  simp
  refine callX_of hC (by simp) ?_
  simp
  refine callW_ms [.ro] ?_
  simp
  refine callX_of hI (by simp [regR]) ?_
  simp
  refine callW_ms [.ro] ?_
  simp
  refine callX_of hS (by simp [regR]) ?_
  simp
  refine twp_for c.length (fun j s => s.t 3 = .pt [(5, 0)] 0 0 ∧ s.t 4 = .b (decide (RegOkP c r e)) ∧ s.t 5 = .i .i64 j ∧ s.H = lk [(1, []), (5, [.po true [.sl true 2 (c.map dT), .sl true 2 (r.map dT), .sl true 2 (e.map dT)]])]) [12] (by simp) ?_ ?_
  · simp
  · rintro j s hj ⟨q3, q4, q5, qH⟩
    rw [nf_of qH]
    simp [q3, q4, q5]
    have hw : IntKind.i64.wrap ((j : Int) + 1) = j + 1 := wrap_id (by omega) (by omega)
    cases hb1 : decide (j < c.length)
    · simp [q3, q4, q5, hb1]
      refine callW_ms [.ro] ?_
      simp
      refine callX_of ((w53 _).t word_without) (by simp) ?_
      simp
      refine callW_ms [.ro] ?_
      simp
      refine callX_of ((w54 _ (by decide)).f name_pick) (by simp) ?_
      simp
      refine callW_ms [.ro] ?_
      simp
      refine callX_of ((w54 _ (by decide)).t name_picks) (by simp) ?_
      simp
    · have hlt := of_decide_eq_true hb1
      obtain ⟨d, hd⟩ := get_some hlt
      simp [q3, q4, q5, hb1, hd, hw]
      refine ⟨fun h20 => ?_, fun h20 => by omega⟩
      refine ⟨hlt, fun hR => ?_, fun hR => ?_⟩
      · obtain ⟨n1, n2, n3, n4⟩ := names_ne hR hd
        have f1 := hF 1 d.1
        rw [if_pos hR, show sortL c r e 1 = c from rfl, idxP_at hd (by simp [nameIs]) n1] at f1
        have f2 := hF 2 d.1
        rw [if_pos hR, show sortL c r e 2 = r from rfl, idxP_none n2] at f2
        have f3 := hF 3 d.1
        rw [if_pos hR, show sortL c r e 3 = e from rfl, idxP_none n3] at f3
        have k1 := hK 1 j
        rw [if_pos hR, show sortL c r e 1 = c from rfl, show kindF c j = d.2 by unfold kindF; rw [if_pos (by omega)]; simp [hd]] at k1
        refine callW_ms [.ro, .ro, .ro] ?_
        simp
        refine callX_of f1 (by simp [regR]) ?_
        simp [q3, q4, q5]
        refine callW_ms [.ro, .ro, .ro] ?_
        simp
        refine callX_of k1 (by simp [regR]) ?_
        simp [q3, q4, q5, hd]
        refine ⟨hlt, ?_⟩
        refine callW_ms [.ro, .ro, .ro] ?_
        simp
        refine callX_of f2 (by simp [regR]) ?_
        simp [q3, q4, q5]
        refine callW_ms [.ro, .ro, .ro] ?_
        simp
        refine callX_of f3 (by simp [regR]) ?_
        simp [q3, q4, q5]
        refine callW_ms [.ro] ?_
        simp
        refine callX_of ((w53 d.1).f n4.1.2.2) (by simp) ?_
        simp [q3, q4, q5, hw, hR]
        try exact hlt
      · have f1 := hF 1 d.1
        rw [if_neg hR] at f1
        have k1 := hK 1 j
        rw [if_neg hR] at k1
        refine callW_ms [.ro, .ro, .ro] ?_
        simp
        refine callX_of f1 (by simp [regR]) ?_
        simp [q3, q4, q5]
        refine callW_ms [.ro, .ro, .ro] ?_
        simp
        refine callX_of k1 (by simp [regR]) ?_
        simp [q3, q4, q5, hw, hR]
        exact hlt
end Go.Proofs.YtloodkhdngipbaaT
