/- Bytes of a draw; streams: who hears all. -/
import Derived.Test.YtloodkhdngipbaaKw3
import Derived.Test.YtloodkhdngipbaaKr0
namespace Go.Proofs.YtloodkhdngipbaaT
set_option linter.unusedVariables false
set_option linter.unusedSimpArgs false
open Go

/- laws.sameVals -/
def c34 : TCode := (.seq (.ops [⟨(some 4), 6, .mv (.c (.b false)), none, []⟩])
  (.seq (.seq (.ops [⟨(some 6), 8, .mv (.t 0), none, []⟩, ⟨(some 7), 9, .len false (.t 6), none, []⟩, ⟨(some 8), 10, .mv (.t 1), none, []⟩, ⟨(some 9), 11, .len false (.t 8), none, []⟩, ⟨(some 10), 12, .bin .neq (.t 7) (.t 9), none, []⟩])
  (.cond (.t 10)
  (.seq (.ops [⟨(some 4), 6, .mv (.c (.b false)), none, []⟩])
  .ret)
  .skip))
  (.seq (.seq (.ops [⟨(some 5), 7, .mv (.c (.i .i64 0)), none, []⟩])
  (.block 0 (.loop (.seq (.seq (.ops [⟨(some 11), 13, .mv (.t 5), none, []⟩, ⟨(some 12), 14, .mv (.t 0), none, []⟩, ⟨(some 13), 15, .len false (.t 12), none, []⟩, ⟨(some 14), 16, .bin .lss (.t 11) (.t 13), none, []⟩])
  (.cond (.t 14)
  .skip
  (.exit 0)))
  (.seq (.block 1 (.seq (.draw [⟨(some 17), 19, .mv (.t 0), none, []⟩, ⟨(some 18), 20, .mv (.t 5), none, []⟩, ⟨(some 19), 21, .iaddr 4 (.t 17) (.t 18), none, []⟩, ⟨(some 20), 22, .load true 4 (.t 19), none, []⟩, ⟨(some 21), 23, .mv (.t 1), none, []⟩, ⟨(some 22), 24, .mv (.t 5), none, []⟩, ⟨(some 23), 25, .iaddr 4 (.t 21) (.t 22), none, []⟩, ⟨(some 24), 26, .load true 4 (.t 23), none, []⟩, ⟨(some 25), 27, .call 82 [((.t 20), 0), ((.t 24), 0)], none, []⟩, ⟨(some 26), 28, .un .not (.t 25), none, []⟩])
  (.cond (.t 26)
  (.seq (.ops [⟨(some 4), 6, .mv (.c (.b false)), none, []⟩])
  .ret)
  .skip)))
  (.ops [⟨(some 15), 17, .mv (.t 5), none, []⟩, ⟨(some 16), 18, .bin .add (.t 15) (.c (.i .i64 1)), none, []⟩, ⟨(some 5), 7, .mv (.t 16), none, []⟩]))))))
  (.seq (.ops [⟨(some 4), 6, .mv (.c (.b true)), none, []⟩])
  .ret))))
theorem k34 : compCode Try.prog Try.f34.ntmps Try.f34.body.get! = some c34 := by kernel_rfl
theorem r34 : resTmps Try.prog Try.f34.results.toList = some [.tmp 4] := by kernel_rfl
/- laws.FnHears -/
def c7 : TCode := (.seq (.ops [⟨(some 2), 4, .mv (.c (.b false)), none, []⟩])
  (.seq (.seq (.ops [⟨(some 23), 25, .mv (.t 0), none, []⟩, ⟨(some 24), 26, .call 32 [((.t 23), 0)], none, []⟩])
  (.cond (.t 24)
  (.seq (.ops [⟨(some 2), 4, .mv (.c (.b true)), none, []⟩])
  .ret)
  .skip))
  (.seq (.ops [⟨(some 25), 27, .build [(.i .i64 0), (.sl true 4 []), (.sl true 4 [])] [], none, []⟩, ⟨(some 3), 5, .box 3 (.c (.ag [(.i .i64 0), (.sl true 4 []), (.sl true 4 [])])), none, []⟩, ⟨none, 1003002, .store 3 (.t 3) (.t 25), none, []⟩])
  (.seq (.ops [⟨(some 4), 6, .mv (.c (.i .i64 0)), none, []⟩])
  (.seq (.ops [⟨(some 26), 28, .bslice 4 0 [(.i .i64 0), (.i .i64 0), (.f 0), (.f 0)] [], none, []⟩, ⟨(some 5), 7, .mv (.t 26), none, []⟩])
  (.seq (.ops [⟨(some 27), 29, .bslice 4 0 [(.i .i64 0), (.i .i64 0), (.f 0), (.f 0)] [], none, []⟩, ⟨(some 6), 8, .mv (.t 27), none, []⟩])
  (.seq (.ops [⟨(some 28), 30, .mv (.t 0), none, []⟩, ⟨(some 29), 31, .len false (.t 28), none, []⟩, ⟨(some 30), 32, .bin .rem (.t 29) (.c (.i .i64 40)), none, []⟩, ⟨(some 31), 33, .bin .add (.c (.i .i64 1)) (.t 30), none, []⟩, ⟨(some 7), 9, .mv (.t 31), none, []⟩])
  (.seq (.seq (.ops [⟨(some 8), 10, .mv (.c (.i .i64 0)), none, []⟩])
  (.block 0 (.loop (.seq (.seq (.ops [⟨(some 32), 34, .mv (.t 8), none, []⟩, ⟨(some 33), 35, .mv (.t 7), none, []⟩, ⟨(some 34), 36, .bin .lss (.t 32) (.t 33), none, []⟩])
  (.cond (.t 34)
  .skip
  (.exit 0)))
  (.seq (.block 1 (.seq (.ops [⟨(some 37), 39, .mv (.t 0), none, []⟩, ⟨(some 38), 40, .mv (.t 8), none, []⟩, ⟨(some 39), 41, .call 33 [((.t 37), 0), ((.t 38), 0)], none, []⟩, ⟨(some 40), 42, .bin .rem (.t 39) (.c (.i .i64 3)), none, []⟩])
  (.block 2 (.seq (.ops [⟨(some 55), 57, .bin .eql (.t 40) (.c (.i .i64 0)), none, []⟩, ⟨(some 54), 56, .mv (.t 55), none, []⟩])
  (.cond (.t 54)
  (.seq (.ops [⟨(some 57), 59, .load true 3 (.t 3), none, []⟩, ⟨(some 58), 60, .mv (.t 8), none, []⟩, ⟨(some 59), 61, .build [(.i .i64 0), (.i .i64 0), (.f 0), (.f 0)] [(0, 1, (.c (.i .i64 1))), (1, 1, (.t 58))], none, []⟩, ⟨(some 60), 62, .call 31 [((.c (.i .i64 1)), 0), ((.t 57), 0), ((.t 59), 0)], none, []⟩, ⟨(some 56), 58, .mv (.t 60), none, []⟩, ⟨(some 61), 63, .ext 0 (.t 56), none, []⟩, ⟨(some 62), 64, .ext 1 (.t 56), none, []⟩, ⟨(some 9), 11, .box 3 (.c (.ag [(.i .i64 0), (.sl true 4 []), (.sl true 4 [])])), none, []⟩, ⟨none, 1018008, .store 3 (.t 9) (.t 61), none, []⟩, ⟨(some 10), 12, .mv (.t 62), none, []⟩])
  (.seq (.seq (.ops [⟨(some 63), 65, .mv (.t 10), none, []⟩, ⟨(some 64), 66, .un .not (.t 63), none, []⟩])
  (.cond (.t 64)
  (.seq (.ops [⟨(some 2), 4, .mv (.c (.b false)), none, []⟩])
  .ret)
  .skip))
  (.seq (.ops [⟨(some 65), 67, .load true 3 (.t 9), none, []⟩, ⟨none, 1021001, .store 3 (.t 3) (.t 65), none, []⟩])
  (.ops [⟨(some 66), 68, .mv (.t 5), none, []⟩, ⟨(some 67), 69, .mv (.t 8), none, []⟩, ⟨(some 68), 70, .build [(.i .i64 0), (.i .i64 0), (.f 0), (.f 0)] [(0, 1, (.c (.i .i64 1))), (1, 1, (.t 67))], none, []⟩, ⟨(some 69), 71, .bslice 4 1 [(.i .i64 0), (.i .i64 0), (.f 0), (.f 0)] [(0, (.t 68))], none, []⟩, ⟨(some 70), 72, .app 4 32 (.t 66) (.t 69), none, []⟩, ⟨(some 5), 7, .mv (.t 70), none, []⟩]))))
  (.seq (.ops [⟨(some 72), 74, .bin .eql (.t 40) (.c (.i .i64 1)), none, []⟩, ⟨(some 71), 73, .mv (.t 72), none, []⟩])
  (.cond (.t 71)
  (.seq (.ops [⟨(some 74), 76, .load true 3 (.t 3), none, []⟩, ⟨(some 75), 77, .mv (.t 4), none, []⟩, ⟨(some 76), 78, .call 25 [((.t 74), 0), ((.t 75), 0)], none, []⟩, ⟨(some 73), 75, .mv (.t 76), none, []⟩, ⟨(some 77), 79, .ext 0 (.t 73), none, []⟩, ⟨(some 78), 80, .ext 1 (.t 73), none, []⟩, ⟨(some 79), 81, .ext 2 (.t 73), none, []⟩, ⟨(some 11), 13, .mv (.t 77), none, []⟩, ⟨(some 12), 14, .mv (.t 78), none, []⟩, ⟨(some 13), 15, .mv (.t 79), none, []⟩])
  (.seq (.ops [⟨(some 80), 82, .mv (.t 6), none, []⟩, ⟨(some 81), 83, .mv (.t 11), none, []⟩, ⟨(some 82), 84, .app 4 32 (.t 80) (.t 81), none, []⟩, ⟨(some 6), 8, .mv (.t 82), none, []⟩])
  (.seq (.ops [⟨(some 83), 85, .mv (.t 12), none, []⟩, ⟨(some 4), 6, .mv (.t 83), none, []⟩])
  (.seq (.seq (.ops [⟨(some 84), 86, .mv (.t 13), none, []⟩, ⟨(some 85), 87, .bin .neq (.t 84) (.c (.i .i64 0)), none, []⟩])
  (.cond (.t 85)
  (.seq (.ops [⟨(some 2), 4, .mv (.c (.b false)), none, []⟩])
  .ret)
  .skip))
  (.ops [⟨(some 86), 88, .load true 3 (.t 3), none, []⟩, ⟨(some 87), 89, .call 21 [((.t 86), 0)], none, []⟩, ⟨none, 1029002, .store 3 (.t 3) (.t 87), none, []⟩])))))
  (.seq (.ops [⟨(some 42), 44, .load true 3 (.t 3), none, []⟩, ⟨(some 43), 45, .mv (.t 4), none, []⟩, ⟨(some 44), 46, .call 25 [((.t 42), 0), ((.t 43), 0)], none, []⟩, ⟨(some 41), 43, .mv (.t 44), none, []⟩, ⟨(some 45), 47, .ext 0 (.t 41), none, []⟩, ⟨(some 46), 48, .ext 1 (.t 41), none, []⟩, ⟨(some 47), 49, .ext 2 (.t 41), none, []⟩, ⟨(some 14), 16, .mv (.t 45), none, []⟩, ⟨(some 15), 17, .mv (.t 46), none, []⟩, ⟨(some 16), 18, .mv (.t 47), none, []⟩])
  (.seq (.ops [⟨(some 48), 50, .mv (.t 6), none, []⟩, ⟨(some 49), 51, .mv (.t 14), none, []⟩, ⟨(some 50), 52, .app 4 32 (.t 48) (.t 49), none, []⟩, ⟨(some 6), 8, .mv (.t 50), none, []⟩])
  (.seq (.ops [⟨(some 51), 53, .mv (.t 15), none, []⟩, ⟨(some 4), 6, .mv (.t 51), none, []⟩])
  (.seq (.ops [⟨(some 52), 54, .mv (.t 16), none, []⟩, ⟨(some 53), 55, .bin .neq (.t 52) (.c (.i .i64 0)), none, []⟩])
  (.cond (.t 53)
  (.seq (.ops [⟨(some 2), 4, .mv (.c (.b false)), none, []⟩])
  .ret)
  .skip))))))))))))
  (.ops [⟨(some 35), 37, .mv (.t 8), none, []⟩, ⟨(some 36), 38, .bin .add (.t 35) (.c (.i .i64 1)), none, []⟩, ⟨(some 8), 10, .mv (.t 36), none, []⟩]))))))
  (.seq (.ops [⟨(some 89), 91, .load true 3 (.t 3), none, []⟩, ⟨(some 90), 92, .mv (.t 4), none, []⟩, ⟨(some 91), 93, .call 25 [((.t 89), 0), ((.t 90), 0)], none, []⟩, ⟨(some 88), 90, .mv (.t 91), none, []⟩, ⟨(some 92), 94, .ext 0 (.t 88), none, []⟩, ⟨(some 93), 95, .ext 1 (.t 88), none, []⟩, ⟨(some 94), 96, .ext 2 (.t 88), none, []⟩, ⟨(some 17), 19, .mv (.t 92), none, []⟩, ⟨(some 18), 20, .mv (.t 93), none, []⟩, ⟨(some 19), 21, .mv (.t 94), none, []⟩])
  (.seq (.ops [⟨(some 95), 97, .mv (.t 6), none, []⟩, ⟨(some 96), 98, .mv (.t 17), none, []⟩, ⟨(some 97), 99, .app 4 32 (.t 95) (.t 96), none, []⟩, ⟨(some 6), 8, .mv (.t 97), none, []⟩])
  (.seq (.ops [⟨(some 99), 101, .load true 3 (.t 3), none, []⟩, ⟨(some 100), 102, .mv (.t 18), none, []⟩, ⟨(some 101), 103, .call 25 [((.t 99), 0), ((.t 100), 0)], none, []⟩, ⟨(some 98), 100, .mv (.t 101), none, []⟩, ⟨(some 102), 104, .ext 0 (.t 98), none, []⟩, ⟨(some 103), 105, .ext 1 (.t 98), none, []⟩, ⟨(some 104), 106, .ext 2 (.t 98), none, []⟩, ⟨(some 20), 22, .mv (.t 102), none, []⟩, ⟨(some 21), 23, .mv (.t 103), none, []⟩, ⟨(some 22), 24, .mv (.t 104), none, []⟩])
  (.seq (.ops [⟨(some 105), 107, .mv (.t 19), none, []⟩, ⟨(some 106), 108, .bin .eql (.t 105) (.c (.i .i64 0)), none, []⟩, ⟨(some 107), 109, .mv (.t 106), none, []⟩, ⟨(some 108), 110, .mv (.t 20), (some (107, true)), []⟩, ⟨(some 109), 111, .len false (.t 108), (some (107, true)), []⟩, ⟨(some 110), 112, .bin .eql (.t 109) (.c (.i .i64 0)), (some (107, true)), []⟩, ⟨(some 111), 113, .pick (.t 107) (.t 110) (.c (.b false)), none, []⟩, ⟨(some 112), 114, .mv (.t 111), none, []⟩, ⟨(some 113), 115, .mv (.t 21), (some (112, true)), []⟩, ⟨(some 114), 116, .mv (.t 18), (some (112, true)), []⟩, ⟨(some 115), 117, .bin .eql (.t 113) (.t 114), (some (112, true)), []⟩, ⟨(some 116), 118, .pick (.t 112) (.t 115) (.c (.b false)), none, []⟩, ⟨(some 117), 119, .mv (.t 116), none, []⟩, ⟨(some 118), 120, .mv (.t 18), (some (117, true)), []⟩, ⟨(some 119), 121, .mv (.t 5), (some (117, true)), []⟩, ⟨(some 120), 122, .len false (.t 119), (some (117, true)), []⟩, ⟨(some 121), 123, .bin .eql (.t 118) (.t 120), (some (117, true)), []⟩, ⟨(some 122), 124, .pick (.t 117) (.t 121) (.c (.b false)), none, []⟩, ⟨(some 123), 125, .mv (.t 122), none, []⟩, ⟨(some 124), 126, .mv (.t 6), (some (123, true)), []⟩, ⟨(some 125), 127, .mv (.t 5), (some (123, true)), []⟩, ⟨(some 126), 128, .call 34 [((.t 124), 0), ((.t 125), 0)], (some (123, true)), []⟩, ⟨(some 127), 129, .pick (.t 123) (.t 126) (.c (.b false)), none, []⟩, ⟨(some 2), 4, .mv (.t 127), none, []⟩])
  .ret))))))))))))
theorem k7 : compCode Try.prog Try.f7.ntmps Try.f7.body.get! = some c7 := by kernel_rfl
theorem r7 : resTmps Try.prog Try.f7.results.toList = some [.tmp 2] := by kernel_rfl

theorem w34 (a : List ValP) (ha : a.length ≤ 2^40) (hf : valsF a) : Contract Try.prog false 34 [.ro, .ro] [.sl false 4 (a.map vT), .sl false 4 (a.map vT)] [.b true] [] := by
  refine mk_contract [] Try.func34 (c := Try.f34.body.get!) (by kernel_rfl) k34 r34 (of_decide_eq_true rfl) fun _ => ?_
  unfold c34; simp
  refine twp_for a.length (fun j s => s.t 0 = .sl false 4 (a.map vT) ∧ s.t 1 = .sl false 4 (a.map vT) ∧ s.t 5 = .i .i64 j ∧ s.H = lk [(1, [])]) [] (by simp) ?_ ?_
  · simp
  · rintro j s hj ⟨q0, q1, q5, qH⟩
    rw [nf_of qH]
    simp [q0, q1, q5]
    intro hlt
    have hw : IntKind.i64.wrap (j + 1) = j + 1 := wrap_id (by omega) (by omega)
    obtain ⟨x, hx⟩ := get_some hlt
    simp [hx, hw, q0, q1, q5]
    have hxf := hf x (List.mem_of_getElem? hx)
    refine callW_ms [.ro, .ro] ?_
    simp [valV]
    refine callX_of (w82 x x hxf hxf) (by simp) ?_
    simp [hw, q0, q1, q5]
    omega
theorem valsF_one {l : List ValP} (h : ∀ v ∈ l, ∃ i : Int, v = (1, i, 0, 0)) : valsF l := by
  intro v hv
  obtain ⟨i, rfl⟩ := h v hv
  exact ⟨⟨0, by omega, (canon_zero 0).2 rfl |>.symm⟩, ⟨0, by omega, (canon_zero 0).2 rfl |>.symm⟩⟩
theorem sendS_one {f : Nat} {o n S : List ValP} (h : ∀ v ∈ S, ∃ i : Int, v = (1, i, 0, 0)) (hS : S.length < 100) (hf : f ≤ S.length) (hon : o ++ n = S.drop f) (i : Int) :
    sendS 1 ((f : Int), o, n) (1, i, 0, 0) = (((f : Int), o, n ++ [(1, i, 0, 0)]), true) := by
  have hl : o.length + n.length ≤ S.length := by
    rw [← List.length_append, hon, List.length_drop]; omega
  have hm : ∀ v ∈ o ++ n, ofK 1 v := fun v hv => by
    rw [hon] at hv
    obtain ⟨i, rfl⟩ := h v (List.mem_of_mem_drop hv)
    exact ⟨rfl, .inl ⟨rfl, rfl, rfl⟩⟩
  unfold sendS
  rw [if_pos]
  refine ⟨⟨⟨by simp only; omega, by simp only; omega⟩, ⟨fun v hv => hm v (by simp [hv]), by simp only; omega⟩, ⟨fun v hv => hm v (by simp [hv]), by simp only; omega⟩⟩, ⟨rfl, .inl ⟨rfl, rfl, rfl⟩⟩, by simp only; omega⟩
theorem unrF_one {f c : Nat} {o n S : List ValP} (hS : S.length < 100) (hfc : f ≤ c) (hc : c ≤ S.length) (hon : o ++ n = S.drop f) :
    unrF ((f : Int), o, n) c = (S.drop c, (S.length : Int), 0) := by
  unfold unrF
  rw [if_pos ⟨by simp only; omega, by simp only; omega⟩]
  simp only [hon]
  have h1 : (max 0 (c : Int) - (f : Int)).toNat = c - f := by omega
  have h2 : ¬ (max 0 (c : Int) < (f : Int)) := by omega
  rw [h1, if_neg h2, List.drop_drop, List.length_drop]
  refine Prod.ext ?_ (Prod.ext ?_ rfl)
  · simp only; congr 1; omega
  · simp only; omega
theorem turnS_one {f : Nat} {o n S : List ValP} (hS : S.length < 100) (hf : f ≤ S.length) (hon : o ++ n = S.drop f) :
    turnS ((f : Int), o, n) = (((f + o.length : Nat) : Int), n, []) := by
  have hl : o.length + n.length ≤ S.length := by
    rw [← List.length_append, hon, List.length_drop]; omega
  unfold turnS
  simp only
  rw [if_pos (by omega)]
  simp
theorem turnS_drop {f : Nat} {o n S : List ValP} (hf : f ≤ S.length) (hon : o ++ n = S.drop f) : n ++ [] = S.drop (f + o.length) ∧ f + o.length ≤ S.length := by
  refine ⟨?_, ?_⟩
  · rw [← List.drop_drop, ← hon]; simp
  · have := congrArg List.length hon
    simp at this; omega
def sentOk (S : List ValP) : Prop := ∀ v ∈ S, ∃ i : Int, v = (1, i, 0, 0)
theorem sentOk_nil : sentOk [] := fun v h => by cases h
theorem sentOk_snoc {S : List ValP} (h : sentOk S) (i : Int) : sentOk (S ++ [(1, i, 0, 0)]) := by
  intro v hv
  rcases List.mem_append.1 hv with hv | hv
  · exact h v hv
  · exact ⟨i, List.mem_singleton.1 hv⟩
set_option maxHeartbeats 1000000 in
set_option maxRecDepth 100000 in
theorem w7 (bs : List Int) : Contract Try.prog false 7 [.ro] [.sl false 1 (bs.map uT)] [.b true] [] := by
  refine mk_contract [] Try.func7 (c := Try.f7.body.get!) (by kernel_rfl) k7 r7 (of_decide_eq_true rfl) fun _ => ?_
  unfold c7; simp
  by_cases hbig : 1048576 < bs.length
  · refine callW_ms [.ro] ?_
    simp
    refine callX_of (w32 bs) (by simp) ?_
    simp [hbig]
  refine callW_ms [.ro] ?_
  simp
  refine callX_of (w32 bs) (by simp) ?_
  simp [hbig]
  have wm : ((bs.length : Int).tmod 40) = (bs.length % 40 : Nat) := (Int.ofNat_tmod _ _).symm
  have wn : IntKind.i64.wrap (1 + ((bs.length % 40 : Nat) : Int)) = (1 + bs.length % 40 : Nat) := wrap_id (by omega) (by omega)
  have hnb : 1 + bs.length % 40 ≤ 40 := by omega
  obtain ⟨N, hN⟩ : ∃ N, N = 1 + bs.length % 40 := ⟨_, rfl⟩
  rw [← hN] at hnb wn
  rw [wm] at *
  simp only [wn]
  refine twp_forR N (fun j s => ∃ (S o n D : List ValP) (f c : Nat), sentOk S ∧ S.length ≤ j ∧ f ≤ c ∧ c ≤ S.length ∧ o ++ n = S.drop f ∧ D = S.take c ∧ s.t 0 = .sl false 1 (bs.map uT) ∧ s.t 3 = .pt [(5, 0)] 0 0 ∧ s.t 4 = .i .i64 c ∧ s.t 5 = .rf [(72, 0)] 0 S.length ∧ s.t 7 = .i .i64 N ∧ s.t 8 = .i .i64 j ∧ (s.t 6 = .rf [(84, 0)] 0 D.length ∧ s.H = lk [(1, []), (5, [.po true [.i .i64 f, .sl true 4 (o.map vT), .sl true 4 (n.map vT)]]), (72, [.sl true 4 (S.map vT)]), (84, [.sl true 4 (D.map vT)])] ∨ s.t 6 = .rf [(84, 0)] 0 D.length ∧ s.H = lk [(1, []), (5, [.po true [.i .i64 f, .sl true 4 (o.map vT), .sl true 4 (n.map vT)]]), (72, [.sl true 4 (S.map vT)]), (84, [.sl true 4 (D.map vT)]), (52, [.junk])] ∨ s.t 6 = .rf [(52, 0)] 0 D.length ∧ s.H = lk [(1, []), (5, [.po true [.i .i64 f, .sl true 4 (o.map vT), .sl true 4 (n.map vT)]]), (72, [.sl true 4 (S.map vT)]), (84, [.junk]), (52, [.sl true 4 (D.map vT)])])) [11, 62, 71, 78, 89, 46] [(28, 72), (29, 84)] (by simp) (by simp) ?_ ?_
  · refine ⟨[], [], [], [], 0, 0, sentOk_nil, ?_⟩
    simp
  · rintro j s hj ⟨S, o, n, D, f, c, hS, hSj, hfc, hcS, hon, hD, q0, q3, q4, q5, q7, q8, hH⟩
    have hSl : S.length < 100 := by omega
    have hfS : f ≤ S.length := by omega
    have eS := sendS_one hS hSl hfS hon j
    have eU := unrF_one hSl hfc hcS hon
    have eT := turnS_one hSl hfS hon
    have eD := turnS_drop hfS hon
    have eA : D ++ S.drop c = S := by rw [hD]; exact List.take_append_drop c S
    obtain ⟨E, hE⟩ : ∃ E, E = S.drop c := ⟨_, rfl⟩
    rw [← hE] at eU eA
    have eL : D.length + E.length = S.length := by rw [hD, hE, List.length_take, List.length_drop]; omega
    have eM : D.map vT ++ E.map vT = S.map vT := by rw [← List.map_append, eA]
    have eV := unrF_one hSl hfS (Nat.le_refl _) hon
    rw [List.drop_length] at eV
    have hb1 : strB (2^40) ((f : Int), o, n) := by
      have := congrArg List.length hon
      simp at this
      exact ⟨by simp only; omega, by simp only; omega⟩
    have hb2 : strB (2^39) ((f : Int), o, n) := by
      have := congrArg List.length hon
      simp at this
      exact ⟨by simp only; omega, by simp only; omega⟩
    have hI := w31 1 ((f : Int), o, n) (1, j, 0, 0) hb1
    rw [eS] at hI
    have hU := w25 ((f : Int), o, n) c hb2
    rw [eU] at hU
    have hV := w25 ((f : Int), o, n) (S.length : Nat) hb2
    rw [eV] at hV
    have hT := w21 ((f : Int), o, n) hb1
    rw [eT] at hT
    have hw : IntKind.i64.wrap ((j : Int) + 1) = j + 1 := wrap_id (by omega) (by omega)
    rcases hH with ⟨q6, qH⟩ | ⟨q6, qH⟩ | ⟨q6, qH⟩
    all_goals
      rw [nf_of qH]
      simp [q0, q3, q4, q5, q6, q7, q8]
      refine ⟨fun hlt => ?_, fun hge => ?_⟩
      · refine callW_ms [.ro, .ro] ?_
        simp
        refine callX_of (w33 bs j (by omega) (by omega)) (by simp) ?_
        simp [q0, q3, q4, q5, q6, q7, q8]
        generalize atF bs j = x
        refine ⟨fun h0 => ?_, fun h0 => ?_⟩
        · refine callW_ms [.ro, .ro, .ro] ?_
          simp
          refine callX_of hI (by simp [strR, valV]) ?_
          simp [strO, q0, q3, q4, q5, q6, q7, q8, hw]
          refine ⟨by omega, hlt, S ++ [(1, (j : Int), 0, 0)], sentOk_snoc hS j, by simp; omega, o, n ++ [(1, (j : Int), 0, 0)], D, f, c, hfc, by simp; omega, ?_, ?_, rfl, by simp, by simp⟩
          · rw [← List.append_assoc, hon, List.drop_append_of_le_length hfS]
          · rw [List.take_append_of_le_length hcS]; exact hD
        · refine ⟨fun h1 => ?_, fun h1 => ?_⟩
          · refine callW_ms [.ro, .ro] ?_
            simp
            refine callX_of hU (by simp [strR]) ?_
            simp [q0, q3, q4, q5, q6, q7, q8, hw]
            refine ⟨by omega, ?_⟩
            refine callW_ms [.ro] ?_
            simp
            refine callX_of hT (by simp [strR]) ?_
            simp [strO, q0, q3, q4, q5, q6, q7, q8, hw]
            refine ⟨hlt, S, hS, by omega, n, [], S, f + o.length, S.length, eD.2, Nat.le_refl _, eD.1, List.take_length.symm, by simp, rfl, ?_⟩
            simp [eL, eM]
          · refine callW_ms [.ro, .ro] ?_
            simp
            refine callX_of hU (by simp [strR]) ?_
            simp [q0, q3, q4, q5, q6, q7, q8, hw]
            refine ⟨by omega, hlt, S, hS, by omega, o, n, S, f, S.length, hfS, Nat.le_refl _, hon, List.take_length.symm, rfl, rfl, ?_⟩
            simp [eL, eM]
      · refine callW_ms [.ro, .ro] ?_
        simp
        refine callX_of hU (by simp [strR]) ?_
        simp [q0, q3, q4, q5, q6, q7, q8, hw, eL, eM]
        refine ⟨by omega, ?_⟩
        refine callW_ms [.ro, .ro] ?_
        simp
        refine callX_of hV (by simp [strR]) ?_
        simp [q0, q3, q4, q5, q6, q7, q8, hw]
        refine callW_ms [.ro, .ro] ?_
        simp
        refine callX_of (w34 S (by omega) (valsF_one hS)) (by simp) ?_
        simp
end Go.Proofs.YtloodkhdngipbaaT
