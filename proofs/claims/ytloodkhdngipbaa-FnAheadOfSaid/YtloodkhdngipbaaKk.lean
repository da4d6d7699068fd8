/- EntAhead. -/
import Derived.Test.YtloodkhdngipbaaKf
import Derived.Test.YtloodkhdngipbaaKj
namespace Go.Proofs.YtloodkhdngipbaaT
set_option linter.unusedVariables false
set_option linter.unusedSimpArgs false
open Go

/- spec.EntAhead -/
def c38 : TCode := (.seq (.ops [⟨(some 2), 4, .box 2 (.t 0), none, []⟩, ⟨(some 4), 6, .mv (.c (.sl true 2 [])), none, []⟩, ⟨(some 5), 7, .mv (.c (.b false)), none, []⟩])
  (.seq (.seq (.ops [⟨(some 11), 13, .load true 2 (.t 2), none, []⟩, ⟨(some 12), 14, .call 92 [((.t 11), 0)], none, []⟩, ⟨(some 13), 15, .un .not (.t 12), none, []⟩, ⟨(some 14), 16, .mv (.t 13), none, []⟩, ⟨(some 15), 17, .mv (.t 1), (some (14, false)), []⟩, ⟨(some 16), 18, .bin .lss (.t 15) (.c (.i .i64 0)), (some (14, false)), []⟩, ⟨(some 17), 19, .pick (.t 14) (.c (.b true)) (.t 16), none, []⟩, ⟨(some 18), 20, .mv (.t 17), none, []⟩, ⟨(some 19), 21, .mv (.t 1), (some (18, false)), []⟩, ⟨(some 20), 22, .bin .gtr (.t 19) (.c (.i .i64 2000)), (some (18, false)), []⟩, ⟨(some 21), 23, .pick (.t 18) (.c (.b true)) (.t 20), none, []⟩])
  (.cond (.t 21)
  (.seq (.ops [⟨(some 4), 6, .mv (.c (.sl true 2 [])), none, []⟩, ⟨(some 5), 7, .mv (.c (.b false)), none, []⟩])
  .ret)
  .skip))
  (.seq (.ops [⟨(some 22), 24, .load true 2 (.t 2), none, []⟩, ⟨(some 23), 25, .call 93 [((.t 22), 0)], none, []⟩, ⟨none, 1003002, .store 2 (.t 2) (.t 23), none, []⟩])
  (.seq (.ops [⟨(some 24), 26, .bslice 2 0 [(.i .i64 0), (.i .i64 0)] [], none, []⟩, ⟨(some 6), 8, .mv (.t 24), none, []⟩])
  (.seq (.seq (.ops [⟨(some 7), 9, .mv (.c (.i .i64 0)), none, []⟩])
  (.block 0 (.loop (.seq (.seq (.ops [⟨(some 25), 27, .mv (.t 7), none, []⟩, ⟨(some 26), 28, .mv (.t 1), none, []⟩, ⟨(some 27), 29, .bin .lss (.t 25) (.t 26), none, []⟩])
  (.cond (.t 27)
  .skip
  (.exit 0)))
  (.seq (.block 1 (.seq (.ops [⟨(some 31), 33, .load true 2 (.t 2), none, []⟩, ⟨(some 32), 34, .call 94 [((.t 31), 0)], none, []⟩, ⟨(some 30), 32, .mv (.t 32), none, []⟩, ⟨(some 33), 35, .ext 0 (.t 30), none, []⟩, ⟨(some 34), 36, .ext 1 (.t 30), none, []⟩, ⟨(some 35), 37, .ext 2 (.t 30), none, []⟩, ⟨(some 8), 10, .box 2 (.c (.ag [(.sl true 1 []), (.sl true 1 [])])), none, []⟩, ⟨(some 9), 11, .box 2 (.c (.ag [(.i .i64 0), (.i .i64 0)])), none, []⟩, ⟨none, 1008008, .store 2 (.t 8) (.t 33), none, []⟩, ⟨none, 1008009, .store 2 (.t 9) (.t 34), none, []⟩, ⟨(some 10), 12, .mv (.t 35), none, []⟩])
  (.seq (.seq (.ops [⟨(some 36), 38, .mv (.t 10), none, []⟩, ⟨(some 37), 39, .bin .neq (.t 36) (.c (.i .i64 0)), none, []⟩])
  (.cond (.t 37)
  (.seq (.ops [⟨(some 4), 6, .mv (.c (.sl true 2 [])), none, []⟩, ⟨(some 5), 7, .mv (.c (.b false)), none, []⟩])
  .ret)
  .skip))
  (.seq (.ops [⟨(some 38), 40, .load true 2 (.t 8), none, []⟩, ⟨none, 1011001, .store 2 (.t 2) (.t 38), none, []⟩])
  (.ops [⟨(some 39), 41, .mv (.t 6), none, []⟩, ⟨(some 40), 42, .load true 2 (.t 9), none, []⟩, ⟨(some 41), 43, .bslice 2 1 [(.i .i64 0), (.i .i64 0)] [(0, (.t 40))], none, []⟩, ⟨(some 42), 44, .app 2 16 (.t 39) (.t 41), none, []⟩, ⟨(some 6), 8, .mv (.t 42), none, []⟩])))))
  (.ops [⟨(some 28), 30, .mv (.t 7), none, []⟩, ⟨(some 29), 31, .bin .add (.t 28) (.c (.i .i64 1)), none, []⟩, ⟨(some 7), 9, .mv (.t 29), none, []⟩]))))))
  (.seq (.ops [⟨(some 43), 45, .mv (.t 6), none, []⟩, ⟨(some 4), 6, .mv (.t 43), none, []⟩, ⟨(some 5), 7, .mv (.c (.b true)), none, []⟩])
  .ret))))))
theorem k38 : compCode Try.prog Try.f38.ntmps Try.f38.body.get! = some c38 := by kernel_rfl
theorem r38 : resTmps Try.prog Try.f38.results.toList = some [.tmp 4, .tmp 5] := by kernel_rfl
/- impl.EntAhead -/
def c37 : TCode := (.seq (.ops [⟨(some 2), 4, .box 2 (.t 0), none, []⟩, ⟨(some 4), 6, .mv (.c (.sl true 2 [])), none, []⟩, ⟨(some 5), 7, .mv (.c (.b false)), none, []⟩])
  (.seq (.seq (.ops [⟨(some 10), 12, .load true 2 (.t 2), none, []⟩, ⟨(some 11), 13, .call 89 [((.t 10), 0)], none, []⟩, ⟨(some 12), 14, .un .not (.t 11), none, []⟩, ⟨(some 13), 15, .mv (.t 12), none, []⟩, ⟨(some 14), 16, .mv (.t 1), (some (13, false)), []⟩, ⟨(some 15), 17, .bin .lss (.t 14) (.c (.i .i64 0)), (some (13, false)), []⟩, ⟨(some 16), 18, .pick (.t 13) (.c (.b true)) (.t 15), none, []⟩, ⟨(some 17), 19, .mv (.t 16), none, []⟩, ⟨(some 18), 20, .mv (.t 1), (some (17, false)), []⟩, ⟨(some 19), 21, .faddr 1 1 (.t 2), (some (17, false)), []⟩, ⟨(some 20), 22, .load false 1 (.t 19), (some (17, false)), []⟩, ⟨(some 21), 23, .len false (.t 20), (some (17, false)), []⟩, ⟨(some 22), 24, .bin .add (.t 21) (.c (.i .i64 2000)), (some (17, false)), []⟩, ⟨(some 23), 25, .faddr 0 1 (.t 2), (some (17, false)), []⟩, ⟨(some 24), 26, .load false 1 (.t 23), (some (17, false)), []⟩, ⟨(some 25), 27, .len false (.t 24), (some (17, false)), []⟩, ⟨(some 26), 28, .bin .sub (.t 22) (.t 25), (some (17, false)), []⟩, ⟨(some 27), 29, .bin .gtr (.t 18) (.t 26), (some (17, false)), []⟩, ⟨(some 28), 30, .pick (.t 17) (.c (.b true)) (.t 27), none, []⟩])
  (.cond (.t 28)
  (.seq (.ops [⟨(some 4), 6, .mv (.c (.sl true 2 [])), none, []⟩, ⟨(some 5), 7, .mv (.c (.b false)), none, []⟩])
  .ret)
  .skip))
  (.seq (.ops [⟨(some 29), 31, .load true 2 (.t 2), none, []⟩, ⟨(some 30), 32, .call 90 [((.t 29), 0)], none, []⟩, ⟨(some 6), 8, .box 2 (.c (.ag [(.sl true 1 []), (.sl true 1 [])])), none, []⟩, ⟨none, 1003003, .store 2 (.t 6) (.t 30), none, []⟩])
  (.seq (.ops [⟨(some 31), 33, .bslice 2 0 [(.i .i64 0), (.i .i64 0)] [], none, []⟩, ⟨(some 7), 9, .mv (.t 31), none, []⟩])
  (.seq (.seq (.ops [⟨(some 32), 34, .mv (.t 1), none, []⟩, ⟨(some 33), 35, .mv (.c (.i .i64 0)), none, []⟩])
  (.block 0 (.loop (.seq (.ops [⟨(some 34), 36, .bin .lss (.t 33) (.t 32), none, []⟩])
  (.seq (.cond (.t 34)
  .skip
  (.exit 0))
  (.seq (.block 1 (.seq (.ops [⟨(some 36), 38, .call 91 [((.t 6), 0)], none, []⟩, ⟨(some 35), 37, .mv (.t 36), none, []⟩, ⟨(some 37), 39, .ext 0 (.t 35), none, []⟩, ⟨(some 38), 40, .ext 1 (.t 35), none, []⟩, ⟨(some 8), 10, .box 2 (.c (.ag [(.i .i64 0), (.i .i64 0)])), none, []⟩, ⟨none, 1007005, .store 2 (.t 8) (.t 37), none, []⟩, ⟨(some 9), 11, .mv (.t 38), none, []⟩])
  (.ops [⟨(some 39), 41, .mv (.t 7), none, []⟩, ⟨(some 40), 42, .load true 2 (.t 8), none, []⟩, ⟨(some 41), 43, .bslice 2 1 [(.i .i64 0), (.i .i64 0)] [(0, (.t 40))], none, []⟩, ⟨(some 42), 44, .app 2 16 (.t 39) (.t 41), none, []⟩, ⟨(some 7), 9, .mv (.t 42), none, []⟩])))
  (.ops [⟨(some 43), 45, .bin .add (.t 33) (.c (.i .i64 1)), none, []⟩, ⟨(some 33), 35, .mv (.t 43), none, []⟩])))))))
  (.seq (.ops [⟨(some 44), 46, .mv (.t 7), none, []⟩, ⟨(some 4), 6, .mv (.t 44), none, []⟩, ⟨(some 5), 7, .mv (.c (.b true)), none, []⟩])
  .ret))))))
theorem k37 : compCode Try.prog Try.f37.ntmps Try.f37.body.get! = some c37 := by kernel_rfl
theorem r37 : resTmps Try.prog Try.f37.results.toList = some [.tmp 4, .tmp 5] := by kernel_rfl

/-- What is there after j takings, and the things taken. -/
def ahS (g f : List Int) : Nat → List Int × List Int
  | 0 => (g, f)
  | j + 1 => (takeP (ahS g f j).1 (ahS g f j).2).1
def ahE (g f : List Int) : Nat → List (Int × Int)
  | 0 => []
  | j + 1 => ahE g f j ++ [(takeP (ahS g f j).1 (ahS g f j).2).2.1]
@[simp] theorem ahE_len (g f : List Int) (j : Nat) : (ahE g f j).length = j := by
  induction j with
  | zero => rfl
  | succ j ih => simp [ahE, ih]
structure AhI (g f : List Int) (j : Nat) : Prop where
  hg : (ahS g f j).1.length ≤ 2000
  hx : ∀ x ∈ (ahS g f j).2, 0 ≤ x ∧ x < (ahS g f j).1.length
  hr : (ahS g f j).2.length + (2000 - (ahS g f j).1.length) = f.length + (2000 - g.length) - j
theorem AhI.zero {g f : List Int} (h : EntsOkP g f) : AhI g f 0 := ⟨h.2.2, freeOk_mem h.2.1, rfl⟩
theorem AhI.code {g f : List Int} {j : Nat} (h : AhI g f j) : (takeP (ahS g f j).1 (ahS g f j).2).2.2 = if j < f.length + (2000 - g.length) then 0 else 3 := by
  obtain ⟨h1, h2, h3⟩ := h
  unfold takeP
  by_cases hf : (ahS g f j).2 = []
  · rw [hf] at h3
    simp only [List.length_nil, hf, if_true] at h3 ⊢
    by_cases hg : 2000 ≤ (ahS g f j).1.length
    · rw [if_pos hg, if_neg (by omega)]
    · rw [if_neg hg, if_pos (by omega)]
  · have : 0 < (ahS g f j).2.length := List.length_pos_iff.2 hf
    rw [if_neg hf, if_pos (by omega)]
theorem AhI.succ {g f : List Int} {j : Nat} (h : AhI g f j) (hj : j < f.length + (2000 - g.length)) : AhI g f (j + 1) := by
  obtain ⟨h1, h2, h3⟩ := h
  have e : ahS g f (j + 1) = (takeP (ahS g f j).1 (ahS g f j).2).1 := rfl
  by_cases hf : (ahS g f j).2 = []
  · rw [hf] at h3
    simp only [List.length_nil] at h3
    have hg : ¬ 2000 ≤ (ahS g f j).1.length := by omega
    have e2 : ahS g f (j + 1) = ((ahS g f j).1 ++ [0], []) := by rw [e]; simp [takeP, hf, hg]
    refine ⟨?_, ?_, ?_⟩ <;> rw [e2] <;> simp <;> omega
  · have : 0 < (ahS g f j).2.length := List.length_pos_iff.2 hf
    have e2 : ahS g f (j + 1) = ((ahS g f j).1, (ahS g f j).2.dropLast) := by rw [e]; simp [takeP, hf]
    refine ⟨?_, ?_, ?_⟩ <;> rw [e2]
    · exact h1
    · exact fun x hx => h2 x (List.dropLast_subset _ hx)
    · simp only [List.length_dropLast]; omega
def aheadF (g f : List Int) (n : Int) : List (Int × Int) × Bool :=
  if EntsOkP g f ∧ 0 ≤ n ∧ n ≤ f.length + (2000 - g.length) then (ahE g f n.toNat, true) else ([], false)
theorem w37 (g f : List Int) (n : Int) (hg : g.length ≤ 2^40) (hf : f.length ≤ 2^39) (hn : n < 2^63) (hn0 : -2^63 ≤ n) : Contract Try.prog false 37 [.ro, .ro] [entsR g f, .i .i64 n] [.sl true 2 ((aheadF g f n).1.map eT), .b (aheadF g f n).2] [] := by
  refine mk_contract [] Try.func37 (c := Try.f37.body.get!) (by kernel_rfl) k37 r37 (of_decide_eq_true rfl) fun _ => ?_
  unfold c37; unfold entsR; simp
  by_cases hE : EntsOkP g f
  · refine callW_ms [.ro] ?_
    simp
    refine callX_of ((w89 g f hg (by omega)).t hE) (by simp) ?_
    simp
    have hfl := len_le_of_nodup _ f hE.2.1.1 hE.2.1.2
    have hgl := hE.2.2
    by_cases h0 : n < 0
    · simp [h0, aheadF, hE, show ¬ 0 ≤ n by omega]
    · have hw1 : IntKind.i64.wrap ((f.length : Int) + 2000) = f.length + 2000 := wrap_id (by omega) (by omega)
      have hw2 : IntKind.i64.wrap ((f.length : Int) + 2000 - g.length) = f.length + 2000 - g.length := wrap_id (by omega) (by omega)
      simp [h0, hw1, hw2]
      by_cases h1 : (f.length : Int) + 2000 - g.length < n
      · have : ¬ n ≤ (f.length : Int) + (2000 - g.length) := by omega
        simp [h1, aheadF, hE, this]
        intro h2; omega
      · simp [h1]
        intro _
        have hF : aheadF g f n = (ahE g f n.toNat, true) := by unfold aheadF; rw [if_pos ⟨hE, by omega, by omega⟩]
        obtain ⟨m, rfl⟩ : ∃ m : Nat, n = m := ⟨n.toNat, by omega⟩
        refine callW_ms [.ro] ?_
        simp
        refine callX_of (w90 g f hg (by omega)) (by simp) ?_
        simp [entsO]
        refine twp_forR m (fun j s => s.t 6 = .pt [(8, 0)] 0 0 ∧ s.t 7 = .rf [(44, 0)] 0 j ∧ s.t 32 = .i .i64 m ∧ s.t 33 = .i .i64 j ∧ AhI g f j ∧ s.H = lk [(1, []), (4, [.po true [.sl false 1 (g.map iT), .sl false 1 (f.map iT)]]), (8, [.po true [.sl true 1 ((ahS g f j).1.map iT), .sl true 1 ((ahS g f j).2.map iT)]]), (44, [.sl true 2 ((ahE g f j).map eT)])]) [32, 38, 10, 43] [(33, 44)] (by simp) (by simp) ?_ ?_
        · simp [ahS, ahE]; exact AhI.zero hE
        · rintro j s hj ⟨q6, q7, q32, q33, hI, qH⟩
          rw [nf_of qH]
          simp [q6, q7, q32, q33]
          refine ⟨fun hlt => ?_, fun hge => ?_⟩
          · have hw : IntKind.i64.wrap (j + 1) = j + 1 := wrap_id (by omega) (by omega)
            obtain ⟨i1, i2, i3⟩ := id hI
            have hS := hI.succ (by omega)
            refine callW_ms [.own] ?_
            simp
            refine callX_of (w91 (ahS g f j).1 (ahS g f j).2 i1 (by omega) i2) (by simp) ?_
            simp [entT, hw, q6, q7, q32, q33]
            exact ⟨by omega, hlt, hS, by simp [ahS, ahE]⟩
          · obtain rfl : j = m := by omega
            simp [q6, q7, q32, q33, hF]
  · refine callW_ms [.ro] ?_
    simp
    refine callX_of ((w89 g f hg (by omega)).f hE) (by simp) ?_
    simp
    simp [aheadF, hE]
theorem w38 (g f : List Int) (n : Int) (hg : g.length ≤ 2^40) (hf : f.length ≤ 2^39) (hn : n < 2^63) (hn0 : -2^63 ≤ n) : Contract Try.prog false 38 [.ro, .ro] [entsR g f, .i .i64 n] [.sl true 2 ((aheadF g f n).1.map eT), .b (aheadF g f n).2] [] := by
  refine mk_contract [] Try.func38 (c := Try.f38.body.get!) (by kernel_rfl) k38 r38 (of_decide_eq_true rfl) fun _ => ?_
  unfold c38; unfold entsR; simp
  by_cases hE : EntsOkP g f
  · refine callW_ms [.ro] ?_
    simp
    refine callX_of ((w92 g f hg (by omega)).t hE) (by simp) ?_
    simp
    have hfl := len_le_of_nodup _ f hE.2.1.1 hE.2.1.2
    have hgl := hE.2.2
    by_cases h0 : n < 0
    · simp [h0, aheadF, hE, show ¬ 0 ≤ n by omega]
    · simp [h0]
      by_cases h1 : 2000 < n
      · have : ¬ n ≤ (f.length : Int) + (2000 - g.length) := by omega
        simp [h1, aheadF, hE, this]
        intro h2; omega
      · simp [h1]
        intro _
        obtain ⟨m, rfl⟩ : ∃ m : Nat, n = m := ⟨n.toNat, by omega⟩
        refine callW_ms [.ro] ?_
        simp
        refine callX_of (w93 g f hg (by omega)) (by simp) ?_
        simp [entsO]
        refine twp_forR m (fun j s => s.t 1 = .i .i64 m ∧ s.t 2 = .pt [(4, 0)] 0 0 ∧ s.t 6 = .rf [(44, 0)] 0 j ∧ s.t 7 = .i .i64 j ∧ AhI g f j ∧ j ≤ f.length + (2000 - g.length) ∧ s.H = lk [(1, []), (4, [.po true [.sl true 1 ((ahS g f j).1.map iT), .sl true 1 ((ahS g f j).2.map iT)]]), (44, [.sl true 2 ((ahE g f j).map eT)])]) [25, 34, 10, 11, 43] [(26, 44)] (by simp) (by simp) ?_ ?_
        · simp [ahS, ahE]; exact AhI.zero hE
        · rintro j s hj ⟨q1, q2, q6, q7, hI, hj2, qH⟩
          rw [nf_of qH]
          simp [q1, q2, q6, q7]
          refine ⟨fun hlt => ?_, fun hge => ?_⟩
          · have hw : IntKind.i64.wrap (j + 1) = j + 1 := wrap_id (by omega) (by omega)
            obtain ⟨i1, i2, i3⟩ := id hI
            have hc := hI.code
            refine callW_ms [.own] ?_
            simp [entsO]
            refine callX_of (w94 (ahS g f j).1 (ahS g f j).2 (by omega) (by omega) i2) (by simp) ?_
            simp [entsO, entT, hw, q1, q2, q6, q7]
            refine ⟨fun hz => ?_, fun hz => ?_⟩
            · have hR : j < f.length + (2000 - g.length) := by
                rw [hc] at hz; split at hz
                · assumption
                · cases hz
              exact ⟨by omega, hlt, hI.succ hR, by omega, by simp [ahS, ahE]⟩
            · have hR : ¬ j < f.length + (2000 - g.length) := fun h => hz (by rw [hc, if_pos h])
              have : aheadF g f m = ([], false) := by unfold aheadF; rw [if_neg (fun h => by have := h.2.2; omega)]
              simp [this]
          · obtain rfl : j = m := by omega
            have hF : aheadF g f j = (ahE g f j, true) := by unfold aheadF; rw [if_pos ⟨hE, by omega, by omega⟩]; rfl
            simp [q1, q2, q6, q7, hF]
  · refine callW_ms [.ro] ?_
    simp
    refine callX_of ((w92 g f hg (by omega)).f hE) (by simp) ?_
    simp
    simp [aheadF, hE]
theorem aheadF_len {g f : List Int} {n : Int} : (aheadF g f n).1.length ≤ f.length + 2000 := by
  unfold aheadF; split
  · rename_i h; simp; omega
  · simp
end Go.Proofs.YtloodkhdngipbaaT
