/- Sorted by halves; joins of effects. -/
import Derived.Test.YtloodkhdngipbaaKsp
import Derived.Test.YtloodkhdngipbaaKv5
namespace Go.Proofs.YtloodkhdngipbaaT
set_option linter.unusedVariables false
set_option linter.unusedSimpArgs false
open Go

/- spec.l10Sorted -/
def c149 : TCode := (.seq (.ops [⟨(some 2), 4, .mv (.c (.sl true 1 [])), none, []⟩])
  (.seq (.ops [⟨(some 10), 12, .mv (.t 0), none, []⟩, ⟨(some 11), 13, .len false (.t 10), none, []⟩, ⟨(some 3), 5, .mv (.t 11), none, []⟩])
  (.seq (.seq (.ops [⟨(some 12), 14, .mv (.t 3), none, []⟩, ⟨(some 13), 15, .bin .lss (.t 12) (.c (.i .i64 2)), none, []⟩])
  (.cond (.t 13)
  (.seq (.ops [⟨(some 14), 16, .bslice 1 0 [(.i .i64 0)] [], none, []⟩, ⟨(some 15), 17, .mv (.t 0), none, []⟩, ⟨(some 16), 18, .app 1 8 (.t 14) (.t 15), none, []⟩, ⟨(some 2), 4, .mv (.t 16), none, []⟩])
  .ret)
  .skip))
  (.seq (.ops [⟨(some 17), 19, .mv (.t 0), none, []⟩, ⟨(some 18), 20, .mv (.t 3), none, []⟩, ⟨(some 19), 21, .bin .quo (.t 18) (.c (.i .i64 2)), none, []⟩, ⟨(some 20), 22, .slice false 1 (.t 17) none (some (.t 19)), none, []⟩, ⟨(some 21), 23, .call 149 [((.t 20), 0)], none, []⟩, ⟨(some 4), 6, .mv (.t 21), none, []⟩])
  (.seq (.ops [⟨(some 22), 24, .mv (.t 0), none, []⟩, ⟨(some 23), 25, .mv (.t 3), none, []⟩, ⟨(some 24), 26, .bin .quo (.t 23) (.c (.i .i64 2)), none, []⟩, ⟨(some 25), 27, .slice false 1 (.t 22) (some (.t 24)) none, none, []⟩, ⟨(some 26), 28, .call 149 [((.t 25), 0)], none, []⟩, ⟨(some 5), 7, .mv (.t 26), none, []⟩])
  (.seq (.ops [⟨(some 27), 29, .bslice 1 0 [(.i .i64 0)] [], none, []⟩, ⟨(some 6), 8, .mv (.t 27), none, []⟩])
  (.seq (.ops [⟨(some 7), 9, .mv (.c (.i .i64 0)), none, []⟩, ⟨(some 8), 10, .mv (.c (.i .i64 0)), none, []⟩])
  (.seq (.block 0 (.loop (.seq (.seq (.ops [⟨(some 28), 30, .mv (.t 7), none, []⟩, ⟨(some 29), 31, .mv (.t 4), none, []⟩, ⟨(some 30), 32, .len false (.t 29), none, []⟩, ⟨(some 31), 33, .bin .lss (.t 28) (.t 30), none, []⟩, ⟨(some 32), 34, .mv (.t 31), none, []⟩, ⟨(some 33), 35, .mv (.t 8), (some (32, false)), []⟩, ⟨(some 34), 36, .mv (.t 5), (some (32, false)), []⟩, ⟨(some 35), 37, .len false (.t 34), (some (32, false)), []⟩, ⟨(some 36), 38, .bin .lss (.t 33) (.t 35), (some (32, false)), []⟩, ⟨(some 37), 39, .pick (.t 32) (.c (.b true)) (.t 36), none, []⟩])
  (.cond (.t 37)
  .skip
  (.exit 0)))
  (.block 1 (.seq (.ops [⟨(some 9), 11, .mv (.c (.i .i64 0)), none, []⟩])
  (.seq (.seq (.draw [⟨(some 38), 40, .mv (.t 8), none, []⟩, ⟨(some 39), 41, .mv (.t 5), none, []⟩, ⟨(some 40), 42, .len false (.t 39), none, []⟩, ⟨(some 41), 43, .bin .geq (.t 38) (.t 40), none, []⟩, ⟨(some 42), 44, .mv (.t 41), none, []⟩, ⟨(some 43), 45, .mv (.t 7), (some (42, false)), []⟩, ⟨(some 44), 46, .mv (.t 4), (some (42, false)), []⟩, ⟨(some 45), 47, .len false (.t 44), (some (42, false)), []⟩, ⟨(some 46), 48, .bin .lss (.t 43) (.t 45), (some (42, false)), []⟩, ⟨(some 47), 49, .mv (.t 46), (some (42, false)), []⟩, ⟨(some 48), 50, .mv (.t 4), (some (47, true)), []⟩, ⟨(some 49), 51, .mv (.t 7), (some (47, true)), []⟩, ⟨(some 50), 52, .iaddr 1 (.t 48) (.t 49), (some (47, true)), []⟩, ⟨(some 51), 53, .load false 1 (.t 50), (some (47, true)), []⟩, ⟨(some 52), 54, .mv (.t 5), (some (47, true)), []⟩, ⟨(some 53), 55, .mv (.t 8), (some (47, true)), []⟩, ⟨(some 54), 56, .iaddr 1 (.t 52) (.t 53), (some (47, true)), []⟩, ⟨(some 55), 57, .load false 1 (.t 54), (some (47, true)), []⟩, ⟨(some 56), 58, .bin .leq (.t 51) (.t 55), (some (47, true)), []⟩, ⟨(some 57), 59, .pick (.t 47) (.t 56) (.c (.b false)), (some (42, false)), []⟩, ⟨(some 58), 60, .pick (.t 42) (.c (.b true)) (.t 57), none, []⟩])
  (.cond (.t 58)
  (.seq (.ops [⟨(some 59), 61, .mv (.t 4), none, []⟩, ⟨(some 60), 62, .mv (.t 7), none, []⟩, ⟨(some 61), 63, .iaddr 1 (.t 59) (.t 60), none, []⟩, ⟨(some 62), 64, .load false 1 (.t 61), none, []⟩, ⟨(some 9), 11, .mv (.t 62), none, []⟩])
  (.ops [⟨(some 63), 65, .mv (.t 7), none, []⟩, ⟨(some 64), 66, .bin .add (.t 63) (.c (.i .i64 1)), none, []⟩, ⟨(some 7), 9, .mv (.t 64), none, []⟩]))
  (.seq (.ops [⟨(some 65), 67, .mv (.t 5), none, []⟩, ⟨(some 66), 68, .mv (.t 8), none, []⟩, ⟨(some 67), 69, .iaddr 1 (.t 65) (.t 66), none, []⟩, ⟨(some 68), 70, .load false 1 (.t 67), none, []⟩, ⟨(some 9), 11, .mv (.t 68), none, []⟩])
  (.ops [⟨(some 69), 71, .mv (.t 8), none, []⟩, ⟨(some 70), 72, .bin .add (.t 69) (.c (.i .i64 1)), none, []⟩, ⟨(some 8), 10, .mv (.t 70), none, []⟩]))))
  (.seq (.ops [⟨(some 71), 73, .mv (.t 6), none, []⟩, ⟨(some 72), 74, .len false (.t 71), none, []⟩, ⟨(some 73), 75, .bin .eql (.t 72) (.c (.i .i64 0)), none, []⟩, ⟨(some 74), 76, .mv (.t 73), none, []⟩, ⟨(some 75), 77, .mv (.t 6), (some (74, false)), []⟩, ⟨(some 76), 78, .mv (.t 6), (some (74, false)), []⟩, ⟨(some 77), 79, .len false (.t 76), (some (74, false)), []⟩, ⟨(some 78), 80, .bin .sub (.t 77) (.c (.i .i64 1)), (some (74, false)), []⟩, ⟨(some 79), 81, .iaddr 1 (.t 75) (.t 78), (some (74, false)), []⟩, ⟨(some 80), 82, .load false 1 (.t 79), (some (74, false)), []⟩, ⟨(some 81), 83, .mv (.t 9), (some (74, false)), []⟩, ⟨(some 82), 84, .bin .neq (.t 80) (.t 81), (some (74, false)), []⟩, ⟨(some 83), 85, .pick (.t 74) (.c (.b true)) (.t 82), none, []⟩])
  (.cond (.t 83)
  (.ops [⟨(some 84), 86, .mv (.t 6), none, []⟩, ⟨(some 85), 87, .mv (.t 9), none, []⟩, ⟨(some 86), 88, .bslice 1 1 [(.i .i64 0)] [(0, (.t 85))], none, []⟩, ⟨(some 87), 89, .app 1 8 (.t 84) (.t 86), none, []⟩, ⟨(some 6), 8, .mv (.t 87), none, []⟩])
  .skip))))))))
  (.seq (.ops [⟨(some 88), 90, .mv (.t 6), none, []⟩, ⟨(some 2), 4, .mv (.t 88), none, []⟩])
  .ret)))))))))
theorem k149 : compCode Try.prog Try.f149.ntmps Try.f149.body.get! = some c149 := by kernel_rfl
theorem r149 : resTmps Try.prog Try.f149.results.toList = some [.tmp 2] := by kernel_rfl

/-- A number put behind a row, if it isn't her last. -/
def push (o : List Int) (x : Int) : List Int := if o.getLast? = some x then o else o ++ [x]
theorem drop_cons {a : List Int} {i : Nat} {x : Int} (hx : a[i]? = some x) : a.drop i = x :: a.drop (i + 1) := by
  obtain ⟨h, rfl⟩ := List.getElem?_eq_some_iff.1 hx
  exact List.drop_eq_getElem_cons h
structure MI (a b o : List Int) (i k : Nat) : Prop where
  ri : ris o
  mem : ∀ x, x ∈ o ↔ x ∈ a.take i ∨ x ∈ b.take k
  la : ∀ x ∈ o, ∀ y ∈ a.drop i, x ≤ y
  lb : ∀ x ∈ o, ∀ y ∈ b.drop k, x ≤ y
theorem MI.zero (a b : List Int) : MI a b [] 0 0 := ⟨List.Pairwise.nil, by simp, by simp, by simp⟩
theorem push_ris {o : List Int} {x : Int} (h : ris o) (hx : ∀ y ∈ o, y ≤ x) : ris (push o x) := by
  unfold push; split
  · exact h
  · rename_i hl
    refine List.pairwise_append.2 ⟨h, List.pairwise_singleton _ _, fun y hy z hz => ?_⟩
    rw [List.mem_singleton] at hz; subst hz
    have h1 := hx y hy
    rcases Int.lt_or_eq_of_le h1 with h2 | h2
    · exact h2
    · subst h2
      exfalso
      rcases List.eq_nil_or_concat o with rfl | ⟨o', u, rfl⟩
      · cases hy
      · rw [List.concat_eq_append] at *
        simp at hl hy
        rcases hy with hy | hy
        · have h3 := (List.pairwise_append.1 h).2.2 y hy u (by simp)
          have h4 := hx u (by simp)
          omega
        · exact hl hy.symm
theorem push_mem {o : List Int} {x z : Int} : z ∈ push o x ↔ z ∈ o ∨ z = x := by
  unfold push; split
  · rename_i h
    have : x ∈ o := List.mem_of_getLast? h
    exact ⟨.inl, fun h => h.elim id fun h => h ▸ this⟩
  · simp
theorem MI.pushA {a b o : List Int} {i k : Nat} {x : Int} (h : MI a b o i k) (ha : ris a) (hx : a[i]? = some x) (hy : ∀ y ∈ b.drop k, x ≤ y) : MI a b (push o x) (i + 1) k := by
  have hi := (List.getElem?_eq_some_iff.1 hx).1
  have hd : a.drop i = x :: a.drop (i + 1) := drop_cons hx
  have hpw : (x :: a.drop (i + 1)).Pairwise (· < ·) := by rw [← hd]; exact List.Pairwise.sublist (List.drop_sublist i a) ha
  refine ⟨push_ris h.ri fun y hy => h.la y hy x (by rw [hd]; simp), fun z => ?_, fun z hz y hy2 => ?_, fun z hz y hy2 => ?_⟩
  · rw [push_mem, h.mem, take_snoc hx]; simp
    constructor
    · rintro ((h1 | h1) | h1)
      · exact .inl (.inl h1)
      · exact .inr h1
      · exact .inl (.inr h1)
    · rintro ((h1 | h1) | h1)
      · exact .inl (.inl h1)
      · exact .inr h1
      · exact .inl (.inr h1)
  · rcases push_mem.1 hz with h1 | rfl
    · exact h.la z h1 y (by rw [hd]; exact List.mem_cons_of_mem _ hy2)
    · exact Int.le_of_lt ((List.pairwise_cons.1 hpw).1 y hy2)
  · rcases push_mem.1 hz with h1 | rfl
    · exact h.lb z h1 y hy2
    · exact hy y hy2
theorem MI.swap {a b o : List Int} {i k : Nat} (h : MI a b o i k) : MI b a o k i := ⟨h.ri, fun x => by rw [h.mem]; exact Or.comm, h.lb, h.la⟩
theorem MI.pushB {a b o : List Int} {i k : Nat} {x : Int} (h : MI a b o i k) (hb : ris b) (hx : b[k]? = some x) (hy : ∀ y ∈ a.drop i, x ≤ y) : MI a b (push o x) i (k + 1) := (h.swap.pushA hb hx hy).swap
theorem ris_head {a : List Int} {i : Nat} {x : Int} (ha : ris a) (hx : a[i]? = some x) : ∀ y ∈ a.drop i, x ≤ y := fun y hy => by
  have hd : a.drop i = x :: a.drop (i + 1) := drop_cons hx
  have hpw : (x :: a.drop (i + 1)).Pairwise (· < ·) := by rw [← hd]; exact List.Pairwise.sublist (List.drop_sublist i a) ha
  rw [hd] at hy
  rcases List.mem_cons.1 hy with rfl | h
  · exact Int.le_refl _
  · exact Int.le_of_lt ((List.pairwise_cons.1 hpw).1 y h)
theorem push_len (o : List Int) (x : Int) : (push o x).length ≤ o.length + 1 := by unfold push; split <;> simp
theorem push_nil (x : Int) : push [] x = [x] := rfl
theorem push_same (o : List Int) (x : Int) : push (o ++ [x]) x = o ++ [x] := by unfold push; rw [if_pos (by simp)]
theorem push_ne (o : List Int) {z x : Int} (h : ¬ z = x) : push (o ++ [z]) x = o ++ [z] ++ [x] := by unfold push; rw [if_neg (by simpa using h)]
theorem w149 (l : List Int) (hl : l.length ≤ 2^40) : Contract Try.prog false 149 [.ro] [.sl false 1 (l.map iT)] [.sl true 1 ((asc l).map iT)] [] := by
  induction hn : l.length using Nat.strongRecOn generalizing l with
  | ind n ih =>
  subst hn
  refine mk_contract [] Try.func149 (c := Try.f149.body.get!) (by kernel_rfl) k149 r149 (of_decide_eq_true rfl) fun _ => ?_
  unfold c149; simp
  refine ⟨fun h => ?_, fun h => ?_⟩
  · have e : l = asc l := asc_eq (by
      match l, h with
      | [], _ => exact List.Pairwise.nil
      | [x], _ => exact List.pairwise_singleton _ _
      | x :: y :: l, h => simp at h; omega) (fun x => Iff.rfl)
    rw [← e]
    exact ⟨by omega, rfl⟩
  · have hwm : IntKind.i64.wrap ((l.length : Int) / 2) = ((l.length / 2 : Nat) : Int) := by rw [wrap_id (by omega) (by omega)]; omega
    have h1 := ih (l.length / 2) (by omega) (l.take (l.length / 2)) (by simp; omega) (by simp; omega)
    have h2 := ih (l.length - l.length / 2) (by omega) (l.drop (l.length / 2)) (by simp; omega) (by simp)
    have ra := asc_ris (l.take (l.length / 2))
    have rb := asc_ris (l.drop (l.length / 2))
    have la := asc_len (l.take (l.length / 2))
    have lb := asc_len (l.drop (l.length / 2))
    have hend : ∀ o, MI (asc (l.take (l.length / 2))) (asc (l.drop (l.length / 2))) o (asc (l.take (l.length / 2))).length (asc (l.drop (l.length / 2))).length → o = asc l := fun o h => by
      refine asc_eq h.ri fun x => ?_
      rw [h.mem, List.take_of_length_le (Nat.le_refl _), List.take_of_length_le (Nat.le_refl _), asc_mem, asc_mem, ← List.mem_append, List.take_append_drop]
    rw [List.map_take] at h1
    rw [List.map_drop] at h2
    rw [List.length_take] at la
    rw [List.length_drop] at lb
    generalize asc (l.take (l.length / 2)) = a at *
    generalize asc (l.drop (l.length / 2)) = b at *
    rw [hwm]
    refine ⟨by omega, by omega, ?_⟩
    refine callW_ms [.ro] ?_
    simp
    refine callX_of h1 (by simp) ?_
    simp [hwm]
    refine ⟨by omega, by omega, ?_⟩
    refine callW_ms [.ro] ?_
    simp
    refine callX_of h2 (by simp) ?_
    simp
    refine twp_forR (a.length + b.length) (fun j s => ∃ (i k : Nat) (o : List Int), i + k = j ∧ i ≤ a.length ∧ k ≤ b.length ∧ o.length ≤ i + k ∧ MI a b o i k ∧ s.t 4 = .rf [(23, 0)] 0 a.length ∧ s.t 5 = .rf [(28, 0)] 0 b.length ∧ s.t 6 = .rf [(89, 0)] 0 o.length ∧ s.t 7 = .i .i64 i ∧ s.t 8 = .i .i64 k ∧ s.H = lk [(1, []), (23, [.sl true 1 (a.map iT)]), (28, [.sl true 1 (b.map iT)]), (89, [.sl true 1 (o.map iT)])]) [88] [(29, 89)] (by simp) (by simp) ?_ ?_
    · exact ⟨0, 0, [], rfl, by omega, by omega, by simp, MI.zero a b, by simp⟩
    · rintro j s hj ⟨i, k, o, rfl, hi, hk, hol, hM, q4, q5, q6, q7, q8, qH⟩
      rw [nf_of qH]
      simp [q4, q5, q6, q7, q8]
      have hwi : IntKind.i64.wrap ((i : Int) + 1) = i + 1 := wrap_id (by omega) (by omega)
      have hwk : IntKind.i64.wrap ((k : Int) + 1) = k + 1 := wrap_id (by omega) (by omega)
      cases hbi : decide (i < a.length)
      rotate_left
      · have hia : i < a.length := of_decide_eq_true hbi
        obtain ⟨x, hx⟩ := get_some hia
        simp [q4, q5, q6, q7, q8]
        cases hbk : decide (b.length ≤ k)
        rotate_left
        · have hkb : b.length ≤ k := of_decide_eq_true hbk
          obtain rfl : k = b.length := by omega
          simp [q4, q5, q6, q7, q8, hx, hwi]
          refine ⟨hia, ?_⟩
          have hM2 := hM.pushA ra hx (by simp)
          have hpl := push_len o x
          rcases List.eq_nil_or_concat o with rfl | ⟨o', z, rfl⟩
          · simp [q4, q5, q6, q7, q8, hwi, hwk]
            exact ⟨by omega, i + 1, b.length, by omega, by omega, by omega, push [] x, by omega, hM2, by simp [push_nil]⟩
          · rw [List.concat_eq_append] at *
            have hne : ¬ ((o' ++ [z]).length = 0) := by simp
            have hol2 : o'.length + 1 ≤ i + b.length := by simpa using hol
            have hwo : IntKind.i64.wrap (o'.length : Int) = o'.length := wrap_id (by omega) (by simp at hol; omega)
            by_cases hz : z = x
            · subst hz
              rw [push_same] at hM2 hpl
              simp [q4, q5, q6, q7, q8, hwi, hwk, hwo]
              exact ⟨by omega, by omega, i + 1, b.length, by omega, by omega, by omega, o' ++ [z], by omega, hM2, by simp⟩
            · rw [push_ne _ hz] at hM2 hpl
              simp at hpl
              simp [q4, q5, q6, q7, q8, hwi, hwk, hwo, hz]
              exact ⟨by omega, by omega, by omega, i + 1, b.length, by omega, by omega, by omega, o' ++ [z] ++ [x], by simp; omega, hM2, by simp⟩
        · have hkb : ¬ b.length ≤ k := of_decide_eq_false hbk
          obtain ⟨y, hy⟩ := get_some (l := b) (j := k) (by omega)
          simp [q4, q5, q6, q7, q8, hx, hy]
          simp only [hbi]
          simp [q4, q5, q6, q7, q8, hx, hy]
          refine ⟨hia, by omega, fun hxy => ⟨hia, ?_⟩, fun hxy => ?_⟩
          · have hM2 := hM.pushA ra hx (fun z hz => Int.le_trans hxy (ris_head rb hy z hz))
            have hpl := push_len o x
            rcases List.eq_nil_or_concat o with rfl | ⟨o', z, rfl⟩
            · simp [q4, q5, q6, q7, q8, hwi, hwk]
              exact ⟨by omega, i + 1, k, by omega, by omega, by omega, push [] x, by omega, hM2, by simp [push_nil]⟩
            · rw [List.concat_eq_append] at *
              have hne : ¬ ((o' ++ [z]).length = 0) := by simp
              have hol2 : o'.length + 1 ≤ i + k := by simpa using hol
              have hwo : IntKind.i64.wrap (o'.length : Int) = o'.length := wrap_id (by omega) (by simp at hol; omega)
              by_cases hz : z = x
              · subst hz
                rw [push_same] at hM2 hpl
                simp [q4, q5, q6, q7, q8, hwi, hwk, hwo]
                exact ⟨by omega, by omega, i + 1, k, by omega, by omega, by omega, o' ++ [z], by omega, hM2, by simp⟩
              · rw [push_ne _ hz] at hM2 hpl
                simp at hpl
                simp [q4, q5, q6, q7, q8, hwi, hwk, hwo, hz]
                exact ⟨by omega, by omega, by omega, i + 1, k, by omega, by omega, by omega, o' ++ [z] ++ [x], by simp; omega, hM2, by simp⟩
          · refine ⟨by omega, ?_⟩
            have hM2 := hM.pushB rb hy (fun z hz => Int.le_trans (Int.le_of_lt (by omega)) (ris_head ra hx z hz))
            have hpl := push_len o y
            rcases List.eq_nil_or_concat o with rfl | ⟨o', z, rfl⟩
            · simp [q4, q5, q6, q7, q8, hwi, hwk]
              exact ⟨by omega, i, k + 1, by omega, by omega, by omega, push [] y, by omega, hM2, by simp [push_nil]⟩
            · rw [List.concat_eq_append] at *
              have hne : ¬ ((o' ++ [z]).length = 0) := by simp
              have hol2 : o'.length + 1 ≤ i + k := by simpa using hol
              have hwo : IntKind.i64.wrap (o'.length : Int) = o'.length := wrap_id (by omega) (by simp at hol; omega)
              by_cases hz : z = y
              · subst hz
                rw [push_same] at hM2 hpl
                simp [q4, q5, q6, q7, q8, hwi, hwk, hwo]
                exact ⟨by omega, by omega, i, k + 1, by omega, by omega, by omega, o' ++ [z], by omega, hM2, by simp⟩
              · rw [push_ne _ hz] at hM2 hpl
                simp at hpl
                simp [q4, q5, q6, q7, q8, hwi, hwk, hwo, hz]
                exact ⟨by omega, by omega, by omega, i, k + 1, by omega, by omega, by omega, o' ++ [z] ++ [y], by simp; omega, hM2, by simp⟩
      · have hia : ¬ i < a.length := of_decide_eq_false hbi
        obtain rfl : i = a.length := by omega
        simp [q4, q5, q6, q7, q8]
        refine ⟨fun hkb => ?_, fun hkb => ?_⟩
        · obtain ⟨y, hy⟩ := get_some hkb
          have hbk : decide (b.length ≤ k) = false := decide_eq_false (by omega)
          simp only [hbk]
          simp [q4, q5, q6, q7, q8, hy]
          refine ⟨hkb, ?_⟩
          have hM2 := hM.pushB rb hy (by simp)
          have hpl := push_len o y
          rcases List.eq_nil_or_concat o with rfl | ⟨o', z, rfl⟩
          · simp [q4, q5, q6, q7, q8, hwi, hwk]
            exact ⟨by omega, a.length, k + 1, by omega, by omega, by omega, push [] y, by omega, hM2, by simp [push_nil]⟩
          · rw [List.concat_eq_append] at *
            have hne : ¬ ((o' ++ [z]).length = 0) := by simp
            have hol2 : o'.length + 1 ≤ a.length + k := by simpa using hol
            have hwo : IntKind.i64.wrap (o'.length : Int) = o'.length := wrap_id (by omega) (by simp at hol; omega)
            by_cases hz : z = y
            · subst hz
              rw [push_same] at hM2 hpl
              simp [q4, q5, q6, q7, q8, hwi, hwk, hwo]
              exact ⟨by omega, by omega, a.length, k + 1, by omega, by omega, by omega, o' ++ [z], by omega, hM2, by simp⟩
            · rw [push_ne _ hz] at hM2 hpl
              simp at hpl
              simp [q4, q5, q6, q7, q8, hwi, hwk, hwo, hz]
              exact ⟨by omega, by omega, by omega, a.length, k + 1, by omega, by omega, by omega, o' ++ [z] ++ [y], by simp; omega, hM2, by simp⟩
        · obtain rfl : k = b.length := by omega
          rw [← hend o hM]
end Go.Proofs.YtloodkhdngipbaaT
