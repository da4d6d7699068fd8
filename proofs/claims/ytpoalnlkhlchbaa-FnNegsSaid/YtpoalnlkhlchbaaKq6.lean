/- What is turned twice; the draw and the plain law. -/
import Derived.Test.YtpoalnlkhlchbaaKq4
import Derived.Test.YtpoalnlkhlchbaaKv6
namespace Go.Proofs.YtpoalnlkhlchbaaT
set_option linter.unusedVariables false
set_option linter.unusedSimpArgs false
open Go

/- spec.DrawValTurn -/
def c34 : TCode := (.seq (.ops [⟨(some 2), 4, .mv (.c (.i .i64 0)), none, []⟩, ⟨(some 3), 5, .box 4 (.c (.ag [(.i .i64 0), (.i .i64 0), (.f 0), (.f 0)])), none, []⟩])
  (.seq (.ops [⟨(some 7), 9, .mv (.t 0), none, []⟩, ⟨(some 8), 10, .call 62 [((.t 7), 0)], none, []⟩, ⟨(some 4), 6, .mv (.t 8), none, []⟩])
  (.seq (.ops [⟨(some 9), 11, .mv (.t 4), none, []⟩, ⟨(some 10), 12, .call 63 [((.t 9), 3), ((.c (.i .i64 8)), 0)], none, []⟩, ⟨(some 5), 7, .mv (.t 10), none, []⟩])
  (.seq (.ops [⟨(some 11), 13, .mv (.t 4), none, []⟩, ⟨(some 12), 14, .bslice 1 6 [(.i .i64 0)] [(0, (.c (.i .i64 1))), (1, (.c (.i .i64 2))), (2, (.c (.i .i64 3))), (3, (.c (.i .i64 3))), (4, (.c (.i .i64 3))), (5, (.c (.i .i64 4)))], none, []⟩, ⟨(some 13), 15, .call 67 [((.t 11), 3), ((.t 12), 0)], none, []⟩, ⟨(some 6), 8, .mv (.t 13), none, []⟩])
  (.seq (.seq (.ops [⟨(some 14), 16, .mv (.t 4), none, []⟩, ⟨(some 15), 17, .call 64 [((.t 14), 3), ((.c (.i .i64 6)), 0)], none, []⟩])
  (.cond (.t 15)
  (.seq (.ops [⟨(some 16), 18, .mv (.t 5), none, []⟩, ⟨(some 17), 19, .mv (.t 4), none, []⟩, ⟨(some 18), 20, .call 65 [((.t 17), 3)], none, []⟩, ⟨(some 2), 4, .mv (.t 16), none, []⟩, ⟨none, 1005004, .store 4 (.t 3) (.t 18), none, []⟩])
  .ret)
  .skip))
  (.seq (.ops [⟨(some 19), 21, .mv (.t 5), none, []⟩, ⟨(some 20), 22, .mv (.t 4), none, []⟩, ⟨(some 21), 23, .mv (.t 6), none, []⟩, ⟨(some 22), 24, .call 66 [((.t 20), 3), ((.t 21), 0)], none, []⟩, ⟨(some 2), 4, .mv (.t 19), none, []⟩, ⟨none, 1006005, .store 4 (.t 3) (.t 22), none, []⟩])
  .ret))))))
theorem k34 : compCode Try.prog Try.f34.ntmps Try.f34.body.get! = some c34 := by kernel_rfl
theorem r34 : resTmps Try.prog Try.f34.results.toList = some [.tmp 2, .cell 3 true 4] := by kernel_rfl

set_option maxHeartbeats 1000000 in
set_option maxRecDepth 100000 in
theorem w34 (bs : List Int) (hb : bs.length ≤ 2^40) : ∃ x : Int × ValP, (valOkF x.2 ∧ in64 x.2.2.1) ∧ Contract Try.prog false 34 [.ro] [.sl false 1 (bs.map uT)] [.i .i64 x.1, valV x.2] [] := by
  refine mk_contractE [] Try.func34 (c := Try.f34.body.get!) (by kernel_rfl) k34 r34 (of_decide_eq_true rfl) ?_
  unfold c34; unfold valV; simp
  obtain ⟨h0, -, hC0⟩ := w62 bs hb
  unfold curT at hC0
  refine callW_ms [.ro] ?_
  simp
  refine callX_of hC0 (by simp) ?_
  simp
  obtain ⟨⟨i1, h1, y1⟩, ⟨a1, b1, c1⟩, hC1⟩ := w63 bs 0 h0 8 hb (by omega)
  simp only at a1 b1 c1 hC1
  unfold curT at hC1
  refine callW_ms [.own, .ro] ?_
  simp
  refine callX_of hC1 (by simp) ?_
  simp
  obtain ⟨⟨i3, h3, y3⟩, ⟨a3, b3⟩, hC3⟩ := w67 bs [1, 2, 3, 3, 3, 4] i1 h1 hb a1 (by simp) (by simp)
  simp only at a3 b3 hC3
  unfold curT at hC3
  refine callW_ms [.own, .own] ?_
  simp
  refine callX_of hC3 (by simp) ?_
  simp
  obtain ⟨⟨i2, h2, y2⟩, a2, hC2⟩ := w64 bs i3 h3 6 hb a3
  simp only at a2 hC2
  unfold curT at hC2
  refine callW_ms [.own, .ro] ?_
  simp
  refine callX_of hC2 (by simp) ?_
  cases y2 with
  | true =>
    simp
    obtain ⟨⟨i4, h4, v4⟩, ⟨a4, b4, g4⟩, hC4⟩ := w65 bs i2 h2 hb a2
    simp only at a4 b4 g4 hC4
    unfold curT valV at hC4
    refine callW_ms [.own] ?_
    simp
    refine callX_of hC4 (by simp) ?_
    simp
    refine exK_of (y1, v4) ⟨b4, g4⟩ ?_
    simp
  | false =>
    simp
    obtain ⟨⟨i5, h5, v5⟩, ⟨a5, b5, g5⟩, hC5⟩ := w66 bs i2 h2 y3 hb a2
    simp only at a5 b5 g5 hC5
    unfold curT valV at hC5
    refine callW_ms [.own, .ro] ?_
    simp
    refine callX_of hC5 (by simp) ?_
    simp
    refine exK_of (y1, v5) ⟨b5, g5⟩ ?_
    simp
theorem neg_twice {x : Nat} (hx : fOk x) : canon (Op.negFloat .f64 (canon (Op.negFloat .f64 x))) = x := by
  rw [neg_canon]
  have e : Op.negFloat .f64 (Op.negFloat .f64 x) = x := by
    show (x ^^^ 2 ^ 63) ^^^ 2 ^ 63 = x
    rw [Nat.xor_assoc, Nat.xor_self, Nat.xor_zero]
  rw [e]
  by_cases h : isN x
  · rw [canon_nan h, fOk_nan hx h]
  · exact canon_not h
theorem turnF_F (op : Int) {a : ValP} (ha : valOkF a) : valOkF (turnF op a).1 := by
  unfold turnF
  repeat' split
  all_goals first | exact boolV_F _ | exact ⟨fOk_zero, fOk_zero⟩ | exact ⟨fOk_neg ha.1, fOk_zero⟩ | exact ⟨fOk_neg ha.1, fOk_neg ha.2⟩ | exact ⟨ha.1, fOk_zero⟩ | exact ⟨ha.2, fOk_zero⟩ | exact ⟨fOk_near _, fOk_zero⟩ | exact ⟨fOk_add _ _, fOk_zero⟩
theorem neg64 {n : Int} (h : in64 n) : IntKind.i64.wrap (0 - IntKind.i64.wrap (0 - n)) = n := by
  unfold in64 at h
  rw [IntKind.wrap_i64, IntKind.wrap_i64]; omega
theorem turn_twice {op : Int} {a : ValP} (ha : valOkF a) (hr : in64 a.2.1) (hop : op ≤ 2) (h : (turnF op a).2 = 0) : turnF op (turnF op a).1 = (a, 0) := by
  obtain ⟨k, n, x, y⟩ := a
  by_cases hk : ValOkP (k, n, x, y)
  rotate_left
  · unfold turnF at h; rw [if_neg hk] at h; exact absurd h (by decide)
  unfold turnF at h
  rw [if_pos hk] at h
  simp only at h ha hr
  by_cases o1 : op = 1
  · subst o1
    by_cases k1 : k = 1
    · subst k1
      have e : x = 0 ∧ y = 0 := by rcases hk with h | h | h | h <;> first | exact h.2 | (have := h.1; simp at this)
      obtain ⟨rfl, rfl⟩ := e
      have t : ∀ m : Int, turnF 1 (1, m, 0, 0) = ((1, IntKind.i64.wrap (0 - m), 0, 0), 0) := fun m => by
        unfold turnF; rw [if_pos (.inl ⟨rfl, rfl, rfl⟩)]; rfl
      rw [t, t, neg64 hr]
    by_cases k2 : k = 2
    · subst k2
      have e : n = 0 ∧ y = 0 := by rcases hk with h | h | h | h <;> first | exact h.2 | (have := h.1; simp at this)
      obtain ⟨rfl, rfl⟩ := e
      have t : ∀ m : Nat, turnF 1 (2, 0, m, 0) = ((2, 0, canon (Op.negFloat .f64 m), 0), 0) := fun m => by
        unfold turnF; rw [if_pos (.inr (.inl ⟨rfl, rfl, rfl⟩))]; rfl
      rw [t, t, neg_twice ha.1]
    by_cases k3 : k = 3
    · subst k3
      have e : n = 0 := by rcases hk with h | h | h | h <;> first | exact h.2 | (have := h.1; simp at this)
      subst e
      have t : ∀ m l : Nat, turnF 1 (3, 0, m, l) = ((3, 0, canon (Op.negFloat .f64 m), canon (Op.negFloat .f64 l)), 0) := fun m l => by
        unfold turnF; rw [if_pos (.inr (.inr (.inl ⟨rfl, rfl⟩)))]; rfl
      rw [t, t, neg_twice ha.1, neg_twice ha.2]
    simp [k1, k2, k3] at h
  by_cases o2 : op = 2
  · subst o2
    by_cases k4 : k = 4
    · subst k4
      have e : (n = 0 ∨ n = 1) ∧ x = 0 ∧ y = 0 := by rcases hk with h | h | h | h <;> first | exact h.2 | (have := h.1; simp at this)
      obtain ⟨rfl | rfl, rfl, rfl⟩ := e <;> decide
    simp [k4] at h
  have : ¬ op = 3 ∧ ¬ op = 4 ∧ ¬ op = 5 ∧ ¬ op = 6 := by omega
  simp [o1, o2, this] at h
theorem turn_parts {a : ValP} (hk : ValOkP a) (h3 : a.1 = 3) : turnF 3 a = ((2, 0, a.2.2.1, 0), 0) ∧ turnF 4 a = ((2, 0, a.2.2.2, 0), 0) ∧ pairV (2, 0, a.2.2.1, 0) (2, 0, a.2.2.2, 0) = (a, true) := by
  obtain ⟨k, n, x, y⟩ := a
  simp only at h3
  subst h3
  have e : n = 0 := by rcases hk with h | h | h | h <;> first | exact h.2 | (have := h.1; simp at this)
  subst e
  have h2 : ∀ z : Nat, ValOkP (2, 0, z, 0) := fun z => .inr (.inl ⟨rfl, rfl, rfl⟩)
  refine ⟨?_, ?_, ?_⟩
  · unfold turnF; rw [if_pos hk]; rfl
  · unfold turnF; rw [if_pos hk]; rfl
  · unfold pairV; rw [if_pos ⟨h2 _, h2 _, rfl, rfl⟩]
end Go.Proofs.YtpoalnlkhlchbaaT
