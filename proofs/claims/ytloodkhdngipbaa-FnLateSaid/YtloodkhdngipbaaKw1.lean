/- Rows of values. -/
import Derived.Test.YtloodkhdngipbaaKv2
namespace Go.Proofs.YtloodkhdngipbaaT
set_option linter.unusedVariables false
set_option linter.unusedSimpArgs false
open Go

/- laws.toValS -/
def c73 : TCode := (.seq (.ops [⟨(some 2), 4, .mv (.c (.sl true 4 [])), none, []⟩])
  (.seq (.ops [⟨(some 5), 7, .mv (.t 0), none, []⟩, ⟨(some 6), 8, .len false (.t 5), none, []⟩, ⟨(some 7), 9, .mkslice 4 32 [(.i .i64 0), (.i .i64 0), (.f 0), (.f 0)] (.t 6) (.t 6), none, []⟩, ⟨(some 3), 5, .mv (.t 7), none, []⟩])
  (.seq (.seq (.ops [⟨(some 4), 6, .mv (.c (.i .i64 0)), none, []⟩])
  (.block 0 (.loop (.seq (.seq (.ops [⟨(some 8), 10, .mv (.t 4), none, []⟩, ⟨(some 9), 11, .mv (.t 0), none, []⟩, ⟨(some 10), 12, .len false (.t 9), none, []⟩, ⟨(some 11), 13, .bin .lss (.t 8) (.t 10), none, []⟩])
  (.cond (.t 11)
  .skip
  (.exit 0)))
  (.seq (.block 1 (.ops [⟨(some 14), 16, .mv (.t 3), none, []⟩, ⟨(some 15), 17, .mv (.t 4), none, []⟩, ⟨(some 16), 18, .mv (.t 0), none, []⟩, ⟨(some 17), 19, .mv (.t 4), none, []⟩, ⟨(some 18), 20, .iaddr 4 (.t 16) (.t 17), none, []⟩, ⟨(some 19), 21, .load true 4 (.t 18), none, []⟩, ⟨(some 20), 22, .call 30 [((.t 19), 0)], none, []⟩, ⟨(some 21), 23, .iaddr 4 (.t 14) (.t 15), none, []⟩, ⟨none, 1005008, .store 4 (.t 21) (.t 20), none, []⟩]))
  (.ops [⟨(some 12), 14, .mv (.t 4), none, []⟩, ⟨(some 13), 15, .bin .add (.t 12) (.c (.i .i64 1)), none, []⟩, ⟨(some 4), 6, .mv (.t 13), none, []⟩]))))))
  (.seq (.ops [⟨(some 22), 24, .mv (.t 3), none, []⟩, ⟨(some 2), 4, .mv (.t 22), none, []⟩])
  .ret))))
theorem k73 : compCode Try.prog Try.f73.ntmps Try.f73.body.get! = some c73 := by kernel_rfl
theorem r73 : resTmps Try.prog Try.f73.results.toList = some [.tmp 2] := by kernel_rfl
/- laws.szValS -/
def c70 : TCode := (.seq (.ops [⟨(some 4), 6, .mv (.c (.i .i64 0)), none, []⟩])
  (.seq (.ops [⟨(some 5), 7, .mv (.t 1), none, []⟩, ⟨(some 6), 8, .mv (.t 0), none, []⟩, ⟨(some 7), 9, .len false (.t 6), none, []⟩, ⟨(some 8), 10, .bin .sub (.t 5) (.t 7), none, []⟩, ⟨(some 1), 3, .mv (.t 8), none, []⟩])
  (.seq (.seq (.ops [⟨(some 9), 11, .mv (.t 1), none, []⟩, ⟨(some 10), 12, .bin .lss (.t 9) (.c (.i .i64 0)), none, []⟩])
  (.cond (.t 10)
  (.seq (.ops [⟨(some 4), 6, .mv (.c (.i .i64 (-1))), none, []⟩])
  .ret)
  .skip))
  (.seq (.ops [⟨(some 11), 13, .mv (.t 1), none, []⟩, ⟨(some 4), 6, .mv (.t 11), none, []⟩])
  .ret))))
theorem k70 : compCode Try.prog Try.f70.ntmps Try.f70.body.get! = some c70 := by kernel_rfl
theorem r70 : resTmps Try.prog Try.f70.results.toList = some [.tmp 4] := by kernel_rfl
/- laws.eqValS -/
def c26 : TCode := (.seq (.ops [⟨(some 4), 6, .mv (.c (.b false)), none, []⟩])
  (.seq (.seq (.ops [⟨(some 6), 8, .mv (.t 0), none, []⟩, ⟨(some 7), 9, .len false (.t 6), none, []⟩, ⟨(some 8), 10, .mv (.t 1), none, []⟩, ⟨(some 9), 11, .len false (.t 8), none, []⟩, ⟨(some 10), 12, .bin .neq (.t 7) (.t 9), none, []⟩])
  (.cond (.t 10)
  (.seq (.ops [⟨(some 4), 6, .mv (.c (.b false)), none, []⟩])
  .ret)
  .skip))
  (.seq (.seq (.ops [⟨(some 5), 7, .mv (.c (.i .i64 0)), none, []⟩])
  (.block 0 (.loop (.seq (.seq (.ops [⟨(some 11), 13, .mv (.t 5), none, []⟩, ⟨(some 12), 14, .mv (.t 0), none, []⟩, ⟨(some 13), 15, .len false (.t 12), none, []⟩, ⟨(some 14), 16, .bin .lss (.t 11) (.t 13), none, []⟩])
  (.cond (.t 14)
  .skip
  (.exit 0)))
  (.seq (.block 1 (.seq (.draw [⟨(some 17), 19, .mv (.t 0), none, []⟩, ⟨(some 18), 20, .mv (.t 5), none, []⟩, ⟨(some 19), 21, .iaddr 4 (.t 17) (.t 18), none, []⟩, ⟨(some 20), 22, .load true 4 (.t 19), none, []⟩, ⟨(some 21), 23, .mv (.t 1), none, []⟩, ⟨(some 22), 24, .mv (.t 5), none, []⟩, ⟨(some 23), 25, .iaddr 4 (.t 21) (.t 22), none, []⟩, ⟨(some 24), 26, .load true 4 (.t 23), none, []⟩, ⟨(some 25), 27, .call 77 [((.t 20), 0), ((.t 24), 0)], none, []⟩, ⟨(some 26), 28, .un .not (.t 25), none, []⟩])
  (.cond (.t 26)
  (.seq (.ops [⟨(some 4), 6, .mv (.c (.b false)), none, []⟩])
  .ret)
  .skip)))
  (.ops [⟨(some 15), 17, .mv (.t 5), none, []⟩, ⟨(some 16), 18, .bin .add (.t 15) (.c (.i .i64 1)), none, []⟩, ⟨(some 5), 7, .mv (.t 16), none, []⟩]))))))
  (.seq (.ops [⟨(some 4), 6, .mv (.c (.b true)), none, []⟩])
  .ret))))
theorem k26 : compCode Try.prog Try.f26.ntmps Try.f26.body.get! = some c26 := by kernel_rfl
theorem r26 : resTmps Try.prog Try.f26.results.toList = some [.tmp 4] := by kernel_rfl
/- laws.markValS -/
def c27 : TCode := (.seq (.ops [⟨(some 4), 6, .mv (.c (.i .i64 0)), none, []⟩])
  (.seq (.seq (.ops [⟨(some 5), 7, .mv (.c (.i .i64 0)), none, []⟩])
  (.block 0 (.loop (.seq (.seq (.ops [⟨(some 6), 8, .mv (.t 5), none, []⟩, ⟨(some 7), 9, .mv (.t 0), none, []⟩, ⟨(some 8), 10, .len false (.t 7), none, []⟩, ⟨(some 9), 11, .bin .lss (.t 6) (.t 8), none, []⟩])
  (.cond (.t 9)
  .skip
  (.exit 0)))
  (.seq (.block 1 (.seq (.ops [⟨(some 12), 14, .mv (.t 0), none, []⟩, ⟨(some 13), 15, .mv (.t 5), none, []⟩, ⟨(some 14), 16, .mv (.t 1), none, []⟩, ⟨(some 15), 17, .iaddr 4 (.t 12) (.t 13), none, []⟩, ⟨(some 16), 18, .faddr 0 1 (.t 15), none, []⟩, ⟨none, 1004005, .store 1 (.t 16) (.t 14), none, []⟩])
  (.seq (.ops [⟨(some 17), 19, .mv (.t 1), none, []⟩, ⟨(some 18), 20, .bin .add (.t 17) (.c (.i .i64 1)), none, []⟩, ⟨(some 1), 3, .mv (.t 18), none, []⟩])
  (.seq (.ops [⟨(some 19), 21, .mv (.t 0), none, []⟩, ⟨(some 20), 22, .mv (.t 5), none, []⟩, ⟨(some 21), 23, .mv (.t 1), none, []⟩, ⟨(some 22), 24, .iaddr 4 (.t 19) (.t 20), none, []⟩, ⟨(some 23), 25, .faddr 1 1 (.t 22), none, []⟩, ⟨none, 1006005, .store 1 (.t 23) (.t 21), none, []⟩])
  (.seq (.ops [⟨(some 24), 26, .mv (.t 1), none, []⟩, ⟨(some 25), 27, .bin .add (.t 24) (.c (.i .i64 1)), none, []⟩, ⟨(some 1), 3, .mv (.t 25), none, []⟩])
  (.seq (.ops [⟨(some 26), 28, .mv (.t 0), none, []⟩, ⟨(some 27), 29, .mv (.t 5), none, []⟩, ⟨(some 28), 30, .mv (.t 1), none, []⟩, ⟨(some 29), 31, .toF (.t 28), none, []⟩, ⟨(some 30), 32, .iaddr 4 (.t 26) (.t 27), none, []⟩, ⟨(some 31), 33, .faddr 2 1 (.t 30), none, []⟩, ⟨none, 1008006, .store 1 (.t 31) (.t 29), none, []⟩])
  (.seq (.ops [⟨(some 32), 34, .mv (.t 1), none, []⟩, ⟨(some 33), 35, .bin .add (.t 32) (.c (.i .i64 1)), none, []⟩, ⟨(some 1), 3, .mv (.t 33), none, []⟩])
  (.seq (.ops [⟨(some 34), 36, .mv (.t 0), none, []⟩, ⟨(some 35), 37, .mv (.t 5), none, []⟩, ⟨(some 36), 38, .mv (.t 1), none, []⟩, ⟨(some 37), 39, .toF (.t 36), none, []⟩, ⟨(some 38), 40, .iaddr 4 (.t 34) (.t 35), none, []⟩, ⟨(some 39), 41, .faddr 3 1 (.t 38), none, []⟩, ⟨none, 1010006, .store 1 (.t 39) (.t 37), none, []⟩])
  (.ops [⟨(some 40), 42, .mv (.t 1), none, []⟩, ⟨(some 41), 43, .bin .add (.t 40) (.c (.i .i64 1)), none, []⟩, ⟨(some 1), 3, .mv (.t 41), none, []⟩])))))))))
  (.ops [⟨(some 10), 12, .mv (.t 5), none, []⟩, ⟨(some 11), 13, .bin .add (.t 10) (.c (.i .i64 1)), none, []⟩, ⟨(some 5), 7, .mv (.t 11), none, []⟩]))))))
  (.seq (.ops [⟨(some 42), 44, .mv (.t 1), none, []⟩, ⟨(some 4), 6, .mv (.t 42), none, []⟩])
  .ret)))
theorem k27 : compCode Try.prog Try.f27.ntmps Try.f27.body.get! = some c27 := by kernel_rfl
theorem r27 : resTmps Try.prog Try.f27.results.toList = some [.tmp 4] := by kernel_rfl
/- laws.heldValS -/
def c28 : TCode := (.seq (.ops [⟨(some 4), 6, .mv (.c (.i .i64 0)), none, []⟩])
  (.seq (.seq (.ops [⟨(some 5), 7, .mv (.c (.i .i64 0)), none, []⟩])
  (.block 0 (.loop (.seq (.seq (.ops [⟨(some 6), 8, .mv (.t 5), none, []⟩, ⟨(some 7), 9, .mv (.t 0), none, []⟩, ⟨(some 8), 10, .len false (.t 7), none, []⟩, ⟨(some 9), 11, .bin .lss (.t 6) (.t 8), none, []⟩])
  (.cond (.t 9)
  .skip
  (.exit 0)))
  (.seq (.block 1 (.seq (.seq (.ops [⟨(some 12), 14, .mv (.t 0), none, []⟩, ⟨(some 13), 15, .mv (.t 5), none, []⟩, ⟨(some 14), 16, .iaddr 4 (.t 12) (.t 13), none, []⟩, ⟨(some 15), 17, .faddr 0 1 (.t 14), none, []⟩, ⟨(some 16), 18, .load false 1 (.t 15), none, []⟩, ⟨(some 17), 19, .mv (.t 1), none, []⟩, ⟨(some 18), 20, .bin .neq (.t 16) (.t 17), none, []⟩])
  (.cond (.t 18)
  (.seq (.ops [⟨(some 4), 6, .mv (.c (.i .i64 (-1))), none, []⟩])
  .ret)
  .skip))
  (.seq (.ops [⟨(some 19), 21, .mv (.t 1), none, []⟩, ⟨(some 20), 22, .bin .add (.t 19) (.c (.i .i64 1)), none, []⟩, ⟨(some 1), 3, .mv (.t 20), none, []⟩])
  (.seq (.seq (.ops [⟨(some 21), 23, .mv (.t 0), none, []⟩, ⟨(some 22), 24, .mv (.t 5), none, []⟩, ⟨(some 23), 25, .iaddr 4 (.t 21) (.t 22), none, []⟩, ⟨(some 24), 26, .faddr 1 1 (.t 23), none, []⟩, ⟨(some 25), 27, .load false 1 (.t 24), none, []⟩, ⟨(some 26), 28, .mv (.t 1), none, []⟩, ⟨(some 27), 29, .bin .neq (.t 25) (.t 26), none, []⟩])
  (.cond (.t 27)
  (.seq (.ops [⟨(some 4), 6, .mv (.c (.i .i64 (-1))), none, []⟩])
  .ret)
  .skip))
  (.seq (.ops [⟨(some 28), 30, .mv (.t 1), none, []⟩, ⟨(some 29), 31, .bin .add (.t 28) (.c (.i .i64 1)), none, []⟩, ⟨(some 1), 3, .mv (.t 29), none, []⟩])
  (.seq (.seq (.ops [⟨(some 30), 32, .mv (.t 0), none, []⟩, ⟨(some 31), 33, .mv (.t 5), none, []⟩, ⟨(some 32), 34, .iaddr 4 (.t 30) (.t 31), none, []⟩, ⟨(some 33), 35, .faddr 2 1 (.t 32), none, []⟩, ⟨(some 34), 36, .load false 1 (.t 33), none, []⟩, ⟨(some 35), 37, .mv (.t 1), none, []⟩, ⟨(some 36), 38, .toF (.t 35), none, []⟩, ⟨(some 37), 39, .bin .neq (.t 34) (.t 36), none, []⟩])
  (.cond (.t 37)
  (.seq (.ops [⟨(some 4), 6, .mv (.c (.i .i64 (-1))), none, []⟩])
  .ret)
  .skip))
  (.seq (.ops [⟨(some 38), 40, .mv (.t 1), none, []⟩, ⟨(some 39), 41, .bin .add (.t 38) (.c (.i .i64 1)), none, []⟩, ⟨(some 1), 3, .mv (.t 39), none, []⟩])
  (.seq (.seq (.ops [⟨(some 40), 42, .mv (.t 0), none, []⟩, ⟨(some 41), 43, .mv (.t 5), none, []⟩, ⟨(some 42), 44, .iaddr 4 (.t 40) (.t 41), none, []⟩, ⟨(some 43), 45, .faddr 3 1 (.t 42), none, []⟩, ⟨(some 44), 46, .load false 1 (.t 43), none, []⟩, ⟨(some 45), 47, .mv (.t 1), none, []⟩, ⟨(some 46), 48, .toF (.t 45), none, []⟩, ⟨(some 47), 49, .bin .neq (.t 44) (.t 46), none, []⟩])
  (.cond (.t 47)
  (.seq (.ops [⟨(some 4), 6, .mv (.c (.i .i64 (-1))), none, []⟩])
  .ret)
  .skip))
  (.ops [⟨(some 48), 50, .mv (.t 1), none, []⟩, ⟨(some 49), 51, .bin .add (.t 48) (.c (.i .i64 1)), none, []⟩, ⟨(some 1), 3, .mv (.t 49), none, []⟩])))))))))
  (.ops [⟨(some 10), 12, .mv (.t 5), none, []⟩, ⟨(some 11), 13, .bin .add (.t 10) (.c (.i .i64 1)), none, []⟩, ⟨(some 5), 7, .mv (.t 11), none, []⟩]))))))
  (.seq (.ops [⟨(some 50), 52, .mv (.t 1), none, []⟩, ⟨(some 4), 6, .mv (.t 50), none, []⟩])
  .ret)))
theorem k28 : compCode Try.prog Try.f28.ntmps Try.f28.body.get! = some c28 := by kernel_rfl
theorem r28 : resTmps Try.prog Try.f28.results.toList = some [.tmp 4] := by kernel_rfl
/- impl.copyVals -/
def c76 : TCode := (.seq (.ops [⟨(some 2), 4, .mv (.c (.sl true 4 [])), none, []⟩])
  (.seq (.ops [⟨(some 3), 5, .mv (.t 0), none, []⟩, ⟨(some 4), 6, .app 4 32 (.c (.sl true 4 [])) (.t 3), none, []⟩, ⟨(some 2), 4, .mv (.t 4), none, []⟩])
  .ret))
theorem k76 : compCode Try.prog Try.f76.ntmps Try.f76.body.get! = some c76 := by kernel_rfl
theorem r76 : resTmps Try.prog Try.f76.results.toList = some [.tmp 2] := by kernel_rfl

theorem w73 (l : List ValP) (hl : l.length ≤ 2^40) : Contract Try.prog false 73 [.ro] [.sl false 4 (l.map vT)] [.sl true 4 (l.map vT)] [] := by
  refine mk_contract [] Try.func73 (c := Try.f73.body.get!) (by kernel_rfl) k73 r73 (of_decide_eq_true rfl) fun _ => ?_
  unfold c73; simp
  refine ⟨by omega, ?_⟩
  refine twp_for l.length (fun j s => s.t 0 = .sl false 4 (l.map vT) ∧ s.t 3 = .rf [(9, 0)] 0 l.length ∧ s.t 4 = .i .i64 j ∧ s.H = lk [(1, []), (9, [.sl true 4 ((l.map vT).take j ++ List.replicate (l.length - j) [.i .i64 0, .i .i64 0, .f 0, .f 0])])]) [] (by simp) ?_ ?_
  · simp
  · rintro j s hj ⟨q0, q3, q4, qH⟩
    rw [nf_of qH]
    simp [q0, q3, q4]
    refine ⟨fun hlt => ?_, fun hge => ?_⟩
    · have hw : IntKind.i64.wrap (j + 1) = j + 1 := wrap_id (by omega) (by omega)
      obtain ⟨x, hx⟩ := get_some hlt
      have hmin : min j l.length = j := by omega
      simp [hx, hw, q0, q3, q4]
      refine callW_ms [.ro] ?_
      simp [valV]
      refine callX_of (w30 x) (by simp) ?_
      simp [valV, hw, q0, q3, q4, rep_at hlt, mapsnoc hx, hmin]
      omega
    · obtain rfl : j = l.length := by omega
      simp [q0, q3, q4]
theorem w70 (l : List ValP) (n : Int) (hl : l.length < 2^63) (hn : n < 2^62) (hn0 : 0 ≤ n) : Contract Try.prog false 70 [.ro, .ro] [.sl false 4 (l.map vT), .i .i64 n] [.i .i64 (szF n l.length)] [] := by
  refine mk_contract [] Try.func70 (c := Try.f70.body.get!) (by kernel_rfl) k70 r70 (of_decide_eq_true rfl) fun _ => ?_
  have hw : IntKind.i64.wrap (n - l.length) = n - l.length := wrap_id (by omega) (by omega)
  unfold c70; unfold szF; simp [hw]
  omega
theorem w26 (a : List ValP) (ha : a.length ≤ 2^40) : Contract Try.prog false 26 [.ro, .ro] [.sl false 4 (a.map vT), .sl false 4 (a.map vT)] [.b true] [] := by
  refine mk_contract [] Try.func26 (c := Try.f26.body.get!) (by kernel_rfl) k26 r26 (of_decide_eq_true rfl) fun _ => ?_
  unfold c26; simp
  refine twp_for a.length (fun j s => s.t 0 = .sl false 4 (a.map vT) ∧ s.t 1 = .sl false 4 (a.map vT) ∧ s.t 5 = .i .i64 j ∧ s.H = lk [(1, [])]) [] (by simp) ?_ ?_
  · simp
  · rintro j s hj ⟨q0, q1, q5, qH⟩
    rw [nf_of qH]
    simp [q0, q1, q5]
    intro hlt
    have hw : IntKind.i64.wrap (j + 1) = j + 1 := wrap_id (by omega) (by omega)
    obtain ⟨x, hx⟩ := get_some hlt
    simp [hx, hw, q0, q1, q5]
    refine callW_ms [.ro, .ro] ?_
    simp
    refine callX_of (W77r x) (by simp [valV]) ?_
    simp [hw, q0, q1, q5]
    exact hlt
def mkV (k : Int) : ValP := (k, k + 1, flI (k + 2), flI (k + 3))
theorem w27 (l : List ValP) (k : Int) (hl : l.length ≤ 2^36) (hk : 0 ≤ k) (hk2 : k ≤ 2^40) : Contract Try.prog false 27 [.own, .ro] [.sl true 4 (l.map vT), .i .i64 k] [.i .i64 (k + 4 * l.length)] [some (.sl true 4 ((mkL 4 mkV k l.length).map vT))] := by
  refine mk_contract [some [(1, 0)]] Try.func27 (c := Try.f27.body.get!) (by kernel_rfl) k27 r27 (of_decide_eq_true rfl) fun _ => ?_
  unfold c27; simp
  refine twp_for l.length (fun j s => s.t 0 = .rf [(1, 0)] 0 l.length ∧ s.t 1 = .i .i64 (k + 4 * j) ∧ s.t 5 = .i .i64 j ∧ s.H = lk [(1, [.sl true 4 ((mkL 4 mkV k j).map vT ++ (l.map vT).drop j)])]) [] (by simp) ?_ ?_
  · simp
  · rintro j s hj ⟨q0, q1, q5, qH⟩
    rw [nf_of qH]
    simp [q0, q1, q5]
    refine ⟨fun hlt => ?_, fun hge => ?_⟩
    · have hw : IntKind.i64.wrap (j + 1) = j + 1 := wrap_id (by omega) (by omega)
      obtain ⟨x, hx⟩ := get_some hlt
      have hw1 : IntKind.i64.wrap (k + 4 * j + 1) = k + 4 * j + 1 := wrap_id (by omega) (by omega)
      have hw2 : IntKind.i64.wrap (k + 4 * j + 1 + 1) = k + 4 * j + 2 := by rw [wrap_id (by omega) (by omega)]; omega
      have hw3 : IntKind.i64.wrap (k + 4 * j + 2 + 1) = k + 4 * j + 3 := by rw [wrap_id (by omega) (by omega)]; omega
      have hw4 : IntKind.i64.wrap (k + 4 * j + 3 + 1) = k + 4 * (j + 1) := by rw [wrap_id (by omega) (by omega)]; omega
      have hf : ∀ n, canon (FloatKind.f64.nearest n) = flI n := fun _ => rfl
      simp [hw, hw1, hw2, hw3, hw4, hf, q0, q1, q5, drop_at hx, mkV]
      omega
    · obtain rfl : j = l.length := by omega
      simp [q0, q1, q5]
theorem w28 (n : Nat) (k : Int) (hl : n ≤ 2^36) (hk : 0 ≤ k) (hk2 : k ≤ 2^40) : Contract Try.prog false 28 [.ro, .ro] [.sl false 4 ((mkL 4 mkV k n).map vT), .i .i64 k] [.i .i64 (k + 4 * n)] [] := by
  refine mk_contract [] Try.func28 (c := Try.f28.body.get!) (by kernel_rfl) k28 r28 (of_decide_eq_true rfl) fun _ => ?_
  unfold c28; simp
  refine twp_for n (fun j s => s.t 0 = .sl false 4 ((mkL 4 mkV k n).map vT) ∧ s.t 1 = .i .i64 (k + 4 * j) ∧ s.t 5 = .i .i64 j ∧ s.H = lk [(1, [])]) [] (by simp) ?_ ?_
  · simp
  · rintro j s hj ⟨q0, q1, q5, qH⟩
    rw [nf_of qH]
    simp [q0, q1, q5]
    refine ⟨fun hlt => ?_, fun hge => ?_⟩
    · have hw : IntKind.i64.wrap (j + 1) = j + 1 := wrap_id (by omega) (by omega)
      have hx := mkL_get 4 mkV k hlt
      have hw1 : IntKind.i64.wrap (k + 4 * j + 1) = k + 4 * j + 1 := wrap_id (by omega) (by omega)
      have hw2 : IntKind.i64.wrap (k + 4 * j + 1 + 1) = k + 4 * j + 2 := by rw [wrap_id (by omega) (by omega)]; omega
      have hw3 : IntKind.i64.wrap (k + 4 * j + 2 + 1) = k + 4 * j + 3 := by rw [wrap_id (by omega) (by omega)]; omega
      have hw4 : IntKind.i64.wrap (k + 4 * j + 3 + 1) = k + 4 * (j + 1) := by rw [wrap_id (by omega) (by omega)]; omega
      have hf : ∀ n, canon (FloatKind.f64.nearest n) = flI n := fun _ => rfl
      simp [hx, hw, hw1, hw2, hw3, hw4, hf, flI_ne, q0, q1, q5, mkV]
      omega
    · obtain rfl : j = n := by omega
      simp [q0, q1, q5]
theorem w76 (l : List ValP) (hl : l.length ≤ 2^40) : Contract Try.prog false 76 [.ro] [.sl false 4 (l.map vT)] [.sl true 4 (l.map vT)] [] := by
  refine mk_contract [] Try.func76 (c := Try.f76.body.get!) (by kernel_rfl) k76 r76 (of_decide_eq_true rfl) fun _ => ?_
  unfold c76; simp
  omega
end Go.Proofs.YtloodkhdngipbaaT
