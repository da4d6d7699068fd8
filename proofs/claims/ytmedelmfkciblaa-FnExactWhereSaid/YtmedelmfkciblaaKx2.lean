/- Where. -/
import Derived.Test.YtmedelmfkciblaaKx1
import Derived.Test.YtmedelmfkciblaaKi
namespace Go.Proofs.YtmedelmfkciblaaT
set_option linter.unusedVariables false
set_option linter.unusedSimpArgs false
open Go

/- slices.Index[[]impl.Ent,impl.Ent] -/
def c114 : TCode := (.seq (.ops [⟨(some 3), 5, .box 2 (.t 1), none, []⟩, ⟨(some 4), 6, .mv (.c (.i .i64 0)), none, []⟩])
  (.seq (.seq (.ops [⟨(some 6), 8, .mv (.t 0), none, []⟩, ⟨(some 7), 9, .len false (.t 6), none, []⟩, ⟨(some 8), 10, .mv (.c (.i .i64 0)), none, []⟩])
  (.block 0 (.loop (.seq (.ops [⟨(some 9), 11, .bin .lss (.t 8) (.t 7), none, []⟩])
  (.seq (.cond (.t 9)
  .skip
  (.exit 0))
  (.seq (.block 1 (.seq (.ops [⟨(some 10), 12, .mv (.t 8), none, []⟩, ⟨(some 5), 7, .mv (.t 10), none, []⟩])
  (.seq (.draw [⟨(some 11), 13, .load true 2 (.t 3), none, []⟩, ⟨(some 12), 14, .mv (.t 0), none, []⟩, ⟨(some 13), 15, .mv (.t 5), none, []⟩, ⟨(some 14), 16, .iaddr 2 (.t 12) (.t 13), none, []⟩, ⟨(some 15), 17, .load true 2 (.t 14), none, []⟩, ⟨(some 16), 18, .eqs false true [.i, .i] (.t 11) (.t 15), none, []⟩])
  (.cond (.t 16)
  (.seq (.ops [⟨(some 17), 19, .mv (.t 5), none, []⟩, ⟨(some 4), 6, .mv (.t 17), none, []⟩])
  .ret)
  .skip))))
  (.ops [⟨(some 18), 20, .bin .add (.t 8) (.c (.i .i64 1)), none, []⟩, ⟨(some 8), 10, .mv (.t 18), none, []⟩])))))))
  (.seq (.ops [⟨(some 4), 6, .mv (.c (.i .i64 (-1))), none, []⟩])
  .ret)))
theorem k114 : compCode Try.prog Try.f114.ntmps Try.f114.body.get! = some c114 := by kernel_rfl
theorem r114 : resTmps Try.prog Try.f114.results.toList = some [.tmp 4] := by kernel_rfl
/- spec.Where -/
def c59 : TCode := (.seq (.ops [⟨(some 2), 4, .box 4 (.t 0), none, []⟩, ⟨(some 3), 5, .box 2 (.t 1), none, []⟩, ⟨(some 4), 6, .mv (.c (.i .i64 0)), none, []⟩, ⟨(some 5), 7, .mv (.c (.i .i64 0)), none, []⟩])
  (.seq (.seq (.ops [⟨(some 6), 8, .mv (.c (.i .i64 0)), none, []⟩])
  (.block 0 (.loop (.seq (.seq (.ops [⟨(some 8), 10, .mv (.t 6), none, []⟩, ⟨(some 9), 11, .faddr 2 1 (.t 2), none, []⟩, ⟨(some 10), 12, .load false 1 (.t 9), none, []⟩, ⟨(some 11), 13, .len false (.t 10), none, []⟩, ⟨(some 12), 14, .bin .lss (.t 8) (.t 11), none, []⟩])
  (.cond (.t 12)
  .skip
  (.exit 0)))
  (.seq (.block 1 (.seq (.ops [⟨(some 7), 9, .mv (.c (.i .i64 0)), none, []⟩])
  (.block 2 (.loop (.seq (.seq (.ops [⟨(some 15), 17, .mv (.t 7), none, []⟩, ⟨(some 16), 18, .faddr 2 1 (.t 2), none, []⟩, ⟨(some 17), 19, .load false 1 (.t 16), none, []⟩, ⟨(some 18), 20, .mv (.t 6), none, []⟩, ⟨(some 19), 21, .iaddr 3 (.t 17) (.t 18), none, []⟩, ⟨(some 20), 22, .faddr 1 1 (.t 19), none, []⟩, ⟨(some 21), 23, .load false 1 (.t 20), none, []⟩, ⟨(some 22), 24, .len false (.t 21), none, []⟩, ⟨(some 23), 25, .bin .lss (.t 15) (.t 22), none, []⟩])
  (.cond (.t 23)
  .skip
  (.exit 2)))
  (.seq (.block 3 (.seq (.draw [⟨(some 26), 28, .faddr 2 1 (.t 2), none, []⟩, ⟨(some 27), 29, .load false 1 (.t 26), none, []⟩, ⟨(some 28), 30, .mv (.t 6), none, []⟩, ⟨(some 29), 31, .iaddr 3 (.t 27) (.t 28), none, []⟩, ⟨(some 30), 32, .faddr 1 1 (.t 29), none, []⟩, ⟨(some 31), 33, .load false 1 (.t 30), none, []⟩, ⟨(some 32), 34, .mv (.t 7), none, []⟩, ⟨(some 33), 35, .iaddr 2 (.t 31) (.t 32), none, []⟩, ⟨(some 34), 36, .load true 2 (.t 33), none, []⟩, ⟨(some 35), 37, .load true 2 (.t 3), none, []⟩, ⟨(some 36), 38, .eqs false true [.i, .i] (.t 34) (.t 35), none, []⟩])
  (.cond (.t 36)
  (.seq (.ops [⟨(some 37), 39, .mv (.t 6), none, []⟩, ⟨(some 38), 40, .mv (.t 7), none, []⟩, ⟨(some 4), 6, .mv (.t 37), none, []⟩, ⟨(some 5), 7, .mv (.t 38), none, []⟩])
  .ret)
  .skip)))
  (.ops [⟨(some 24), 26, .mv (.t 7), none, []⟩, ⟨(some 25), 27, .bin .add (.t 24) (.c (.i .i64 1)), none, []⟩, ⟨(some 7), 9, .mv (.t 25), none, []⟩])))))))
  (.ops [⟨(some 13), 15, .mv (.t 6), none, []⟩, ⟨(some 14), 16, .bin .add (.t 13) (.c (.i .i64 1)), none, []⟩, ⟨(some 6), 8, .mv (.t 14), none, []⟩]))))))
  (.seq (.ops [⟨(some 4), 6, .mv (.c (.i .i64 (-1))), none, []⟩, ⟨(some 5), 7, .mv (.c (.i .i64 (-1))), none, []⟩])
  .ret)))
theorem k59 : compCode Try.prog Try.f59.ntmps Try.f59.body.get! = some c59 := by kernel_rfl
theorem r59 : resTmps Try.prog Try.f59.results.toList = some [.tmp 4, .tmp 5] := by kernel_rfl
/- impl.Where -/
def c61 : TCode := (.seq (.ops [⟨(some 2), 4, .box 4 (.t 0), none, []⟩, ⟨(some 3), 5, .box 2 (.t 1), none, []⟩, ⟨(some 4), 6, .mv (.c (.i .i64 0)), none, []⟩, ⟨(some 5), 7, .mv (.c (.i .i64 0)), none, []⟩])
  (.seq (.seq (.ops [⟨(some 8), 10, .faddr 2 1 (.t 2), none, []⟩, ⟨(some 9), 11, .load false 1 (.t 8), none, []⟩, ⟨(some 10), 12, .len false (.t 9), none, []⟩, ⟨(some 11), 13, .mv (.c (.i .i64 0)), none, []⟩])
  (.block 0 (.loop (.seq (.ops [⟨(some 12), 14, .bin .lss (.t 11) (.t 10), none, []⟩])
  (.seq (.cond (.t 12)
  .skip
  (.exit 0))
  (.seq (.block 1 (.seq (.ops [⟨(some 13), 15, .mv (.t 11), none, []⟩, ⟨(some 6), 8, .mv (.t 13), none, []⟩])
  (.seq (.draw [⟨(some 14), 16, .faddr 2 1 (.t 2), none, []⟩, ⟨(some 15), 17, .load false 1 (.t 14), none, []⟩, ⟨(some 16), 18, .mv (.t 6), none, []⟩, ⟨(some 17), 19, .iaddr 3 (.t 15) (.t 16), none, []⟩, ⟨(some 18), 20, .faddr 1 1 (.t 17), none, []⟩, ⟨(some 19), 21, .load false 1 (.t 18), none, []⟩, ⟨(some 20), 22, .load true 2 (.t 3), none, []⟩, ⟨(some 21), 23, .call 114 [((.t 19), 0), ((.t 20), 0)], none, []⟩, ⟨(some 7), 9, .mv (.t 21), none, []⟩])
  (.seq (.ops [⟨(some 22), 24, .mv (.t 7), none, []⟩, ⟨(some 23), 25, .bin .geq (.t 22) (.c (.i .i64 0)), none, []⟩])
  (.cond (.t 23)
  (.seq (.ops [⟨(some 24), 26, .mv (.t 6), none, []⟩, ⟨(some 25), 27, .mv (.t 7), none, []⟩, ⟨(some 4), 6, .mv (.t 24), none, []⟩, ⟨(some 5), 7, .mv (.t 25), none, []⟩])
  .ret)
  .skip)))))
  (.ops [⟨(some 26), 28, .bin .add (.t 11) (.c (.i .i64 1)), none, []⟩, ⟨(some 11), 13, .mv (.t 26), none, []⟩])))))))
  (.seq (.ops [⟨(some 4), 6, .mv (.c (.i .i64 (-1))), none, []⟩, ⟨(some 5), 7, .mv (.c (.i .i64 (-1))), none, []⟩])
  .ret)))
theorem k61 : compCode Try.prog Try.f61.ntmps Try.f61.body.get! = some c61 := by kernel_rfl
theorem r61 : resTmps Try.prog Try.f61.results.toList = some [.tmp 4, .tmp 5] := by kernel_rfl
/- laws.FnExactWhere -/
def c10 : TCode := (.seq (.ops [⟨(some 2), 4, .box 4 (.t 0), none, []⟩, ⟨(some 3), 5, .box 2 (.t 1), none, []⟩, ⟨(some 4), 6, .mv (.c (.b false)), none, []⟩])
  (.seq (.ops [⟨(some 5), 7, .mv (.c (.i .i64 1048576)), none, []⟩])
  (.seq (.ops [⟨(some 11), 13, .load true 4 (.t 2), none, []⟩, ⟨(some 12), 14, .mv (.t 5), none, []⟩, ⟨(some 13), 15, .call 49 [((.t 11), 0), ((.t 12), 0)], none, []⟩, ⟨(some 5), 7, .mv (.t 13), none, []⟩])
  (.seq (.seq (.ops [⟨(some 14), 16, .mv (.t 5), none, []⟩, ⟨(some 15), 17, .bin .lss (.t 14) (.c (.i .i64 0)), none, []⟩])
  (.cond (.t 15)
  (.seq (.ops [⟨(some 4), 6, .mv (.c (.b true)), none, []⟩])
  .ret)
  .skip))
  (.seq (.draw [⟨(some 17), 19, .load true 4 (.t 2), none, []⟩, ⟨(some 18), 20, .call 51 [((.t 17), 0)], none, []⟩, ⟨(some 19), 21, .load true 2 (.t 3), none, [1]⟩, ⟨(some 20), 22, .call 60 [((.t 19), 0)], none, []⟩, ⟨(some 21), 23, .call 59 [((.t 18), 0), ((.t 20), 0)], none, []⟩, ⟨(some 16), 18, .mv (.t 21), none, []⟩, ⟨(some 22), 24, .ext 0 (.t 16), none, []⟩, ⟨(some 23), 25, .ext 1 (.t 16), none, []⟩, ⟨(some 6), 8, .mv (.t 22), none, []⟩, ⟨(some 7), 9, .mv (.t 23), none, []⟩])
  (.seq (.ops [⟨(some 24), 26, .load true 4 (.t 2), none, []⟩, ⟨(some 25), 27, .call 51 [((.t 24), 0)], none, []⟩, ⟨(some 8), 10, .box 4 (.c (.ag [(.sl true 1 []), (.sl true 1 []), (.sl true 3 []), (.sl true 4 [])])), none, []⟩, ⟨none, 1006003, .store 4 (.t 8) (.t 25), none, []⟩])
  (.seq (.draw [⟨(some 27), 29, .load true 4 (.t 8), none, []⟩, ⟨(some 28), 30, .load true 2 (.t 3), none, []⟩, ⟨(some 29), 31, .call 60 [((.t 28), 0)], none, [0]⟩, ⟨(some 30), 32, .call 61 [((.t 27), 0), ((.t 29), 0)], none, []⟩, ⟨(some 26), 28, .mv (.t 30), none, []⟩, ⟨(some 31), 33, .ext 0 (.t 26), none, []⟩, ⟨(some 32), 34, .ext 1 (.t 26), none, []⟩, ⟨(some 9), 11, .mv (.t 31), none, []⟩, ⟨(some 10), 12, .mv (.t 32), none, []⟩])
  (.seq (.seq (.ops [⟨(some 33), 35, .mv (.t 9), none, []⟩, ⟨(some 34), 36, .mv (.t 6), none, []⟩, ⟨(some 35), 37, .bin .neq (.t 33) (.t 34), none, []⟩, ⟨(some 36), 38, .mv (.t 35), none, []⟩, ⟨(some 37), 39, .mv (.t 10), (some (36, false)), []⟩, ⟨(some 38), 40, .mv (.t 7), (some (36, false)), []⟩, ⟨(some 39), 41, .bin .neq (.t 37) (.t 38), (some (36, false)), []⟩, ⟨(some 40), 42, .pick (.t 36) (.c (.b true)) (.t 39), none, []⟩])
  (.cond (.t 40)
  (.seq (.ops [⟨(some 4), 6, .mv (.c (.b false)), none, []⟩])
  .ret)
  .skip))
  (.seq (.seq (.draw [⟨(some 41), 43, .load true 4 (.t 8), none, []⟩, ⟨(some 42), 44, .load true 4 (.t 2), none, []⟩, ⟨(some 43), 45, .call 51 [((.t 42), 0)], none, [0]⟩, ⟨(some 44), 46, .call 55 [((.t 41), 0), ((.t 43), 0)], none, []⟩, ⟨(some 45), 47, .un .not (.t 44), none, []⟩])
  (.cond (.t 45)
  (.seq (.ops [⟨(some 4), 6, .mv (.c (.b false)), none, []⟩])
  .ret)
  .skip))
  (.seq (.ops [⟨(some 4), 6, .mv (.c (.b true)), none, []⟩])
  .ret))))))))))
theorem k10 : compCode Try.prog Try.f10.ntmps Try.f10.body.get! = some c10 := by kernel_rfl
theorem r10 : resTmps Try.prog Try.f10.results.toList = some [.tmp 4] := by kernel_rfl

def isE (e : Int × Int) (r : Int × Int) : Bool := decide (r = e)
def noI (e : Int × Int) (l : List (Int × Int)) : Prop := ∀ y ∈ l, isE e y = false
@[simp] theorem noI_nil (e : Int × Int) : noI e [] := fun y h => by cases h
def noE (e : Int × Int) (ts : List TableP) : Prop := ∀ t ∈ ts, ¬ 0 ≤ idxP (isE e) t.2.1
@[simp] theorem noE_nil (e : Int × Int) : noE e [] := fun y h => by cases h
theorem noE_snoc {e : Int × Int} {ts : List TableP} {t : TableP} {j : Nat} (h : noE e (ts.take j)) (ht : ts[j]? = some t) (hi : idxP (isE e) t.2.1 < 0) : noE e (ts.take (j + 1)) := by
  intro z hz
  rw [take_snoc ht] at hz
  rcases List.mem_append.1 hz with h' | h'
  · exact h z h'
  · simp at h'; subst h'; omega
/-- The table and the row of a thing. -/
def whereG (e : Int × Int) : List TableP → Nat → Int × Int
  | [], _ => (-1, -1)
  | t :: ts, i => if 0 ≤ idxP (isE e) t.2.1 then ((i : Int), idxP (isE e) t.2.1) else whereG e ts (i + 1)
theorem whereG_end {e : Int × Int} {i : Nat} {ts : List TableP} (h : ∀ t ∈ ts, ¬ 0 ≤ idxP (isE e) t.2.1) : whereG e ts i = (-1, -1) := by
  induction ts generalizing i with
  | nil => rfl
  | cons t ts ih =>
    simp only [whereG, if_neg (h t List.mem_cons_self)]
    exact ih fun t ht => h t (List.mem_cons_of_mem _ ht)
theorem whereG_at {e : Int × Int} {t : TableP} : ∀ {j : Nat} {i : Nat} {ts : List TableP}, (∀ t ∈ ts.take j, ¬ 0 ≤ idxP (isE e) t.2.1) → ts[j]? = some t → 0 ≤ idxP (isE e) t.2.1 → whereG e ts i = (((i + j : Nat) : Int), idxP (isE e) t.2.1)
  | 0, i, t0 :: ts, h, ht, hp => by
    simp only [List.getElem?_cons_zero, Option.some.injEq] at ht; subst ht
    simp only [whereG, if_pos hp, Nat.add_zero]
  | j + 1, i, t0 :: ts, h, ht, hp => by
    simp only [whereG, if_neg (h t0 (by simp))]
    rw [whereG_at (j := j) (fun t ht => h t (by simp only [List.take_succ_cons]; exact List.mem_cons_of_mem _ ht)) (by simpa using ht) hp]
    congr 2; omega
  | 0, i, [], h, ht, hp => by simp at ht
  | j + 1, i, [], h, ht, hp => by simp at ht
theorem w114 (l : List (Int × Int)) (e : Int × Int) (hl : l.length ≤ 2^40) : Contract Try.prog false 114 [.ro, .ro] [.sl false 2 (l.map eT), .ag (eT e)] [.i .i64 (idxP (isE e) l)] [] := by
  refine mk_contract [] Try.func114 (c := Try.f114.body.get!) (by kernel_rfl) k114 r114 (of_decide_eq_true rfl) fun _ => ?_
  unfold c114; simp
  refine twp_for l.length (fun j s => s.t 0 = .sl false 2 (l.map eT) ∧ s.t 3 = .pt [(5, 0)] 0 0 ∧ s.t 7 = .i .i64 l.length ∧ s.t 8 = .i .i64 j ∧ noI e (l.take j) ∧ s.H = lk [(1, []), (5, [.po true (eT e)])]) [] (by simp) ?_ ?_
  · simp
  · rintro j s hj ⟨q0, q3, q7, q8, hn, qH⟩
    rw [nf_of qH]
    simp [q0, q3, q7, q8]
    refine ⟨fun hlt => ?_, fun hge => ?_⟩
    · have hw : IntKind.i64.wrap (j + 1) = j + 1 := wrap_id (by omega) (by omega)
      obtain ⟨y, hy⟩ := get_some hlt
      simp [hy, hw, q0, q3, q7, q8]
      by_cases hey : y = e
      · subst hey
        simp [hw, q0, q3, q7, q8]
        exact (idxP_at hy (by simp [isE]) hn).symm
      · have hne : (decide (e.1 = y.1) && decide (e.2 = y.2)) = false := by
          rw [Bool.eq_false_iff]; intro h
          simp only [Bool.and_eq_true, decide_eq_true_eq] at h
          exact hey (Prod.ext h.1.symm h.2.symm)
        have hs : noI e (l.take (j + 1)) := by
          intro z hz
          rw [take_snoc hy] at hz
          rcases List.mem_append.1 hz with h | h
          · exact hn z h
          · simp at h; subst h; simp [isE, hey]
        simp [hne, hw, q0, q3, q7, q8]
        exact ⟨hlt, hs⟩
    · obtain rfl : j = l.length := by omega
      rw [List.take_of_length_le (Nat.le_refl _)] at hn
      exact (idxP_none hn).symm
theorem w61 (w : WorldP) (e : Int × Int) (h : okW w) : Contract Try.prog false 61 [.ro, .ro] [worldR w.1 w.2.1 w.2.2.1 w.2.2.2, .ag (eT e)] [.i .i64 (whereG e w.2.2.1 0).1, .i .i64 (whereG e w.2.2.1 0).2] [] := by
  refine mk_contract [] Try.func61 (c := Try.f61.body.get!) (by kernel_rfl) k61 r61 (of_decide_eq_true rfl) fun _ => ?_
  obtain ⟨h1, h2, ⟨h3, h4⟩, h5⟩ := h
  obtain ⟨g, f, ts, rs⟩ := w
  simp only at h1 h2 h3 h4 h5 ⊢
  unfold c61; simp
  refine twp_for ts.length (fun j s => s.t 2 = .pt [(4, 0)] 0 0 ∧ s.t 3 = .pt [(5, 0)] 0 0 ∧ s.t 10 = .i .i64 ts.length ∧ s.t 11 = .i .i64 j ∧ noE e (ts.take j) ∧ s.H = lk [(1, []), (4, [.po true [.sl false 1 (g.map iT), .sl false 1 (f.map iT), .sl false 3 (ts.map tbT), .sl false 4 (rs.map vT)]]), (5, [.po true (eT e)])]) [] (by simp) ?_ ?_
  · simp
  · rintro j s hj ⟨q2, q3, q10, q11, hn, qH⟩
    rw [nf_of qH]
    simp [q2, q3, q10, q11]
    refine ⟨fun hlt => ?_, fun hge => ?_⟩
    · have hw : IntKind.i64.wrap (j + 1) = j + 1 := wrap_id (by omega) (by omega)
      obtain ⟨t, ht⟩ := get_some hlt
      have hm := List.mem_of_getElem? ht
      simp [ht, hw, q2, q3, q10, q11]
      refine callW_ms [.ro, .ro] ?_
      simp
      refine callX_of (w114 t.2.1 e (by have := (h4 t hm).2.1; omega)) (by simp) ?_
      simp [hw, q2, q3, q10, q11]
      refine ⟨fun hp => ?_, fun hp => ⟨hlt, noE_snoc hn ht hp⟩⟩
      rw [whereG_at hn ht hp]; simp
    · obtain rfl : j = ts.length := by omega
      rw [List.take_of_length_le (Nat.le_refl _)] at hn
      rw [whereG_end hn]; simp
theorem idxP_take {e : Int × Int} {l : List (Int × Int)} : idxP (isE e) l < 0 ↔ noI e l := by
  constructor
  · intro h z hz
    cases hb : isE e z with
    | false => rfl
    | true => have := (idxP_ge (p := isE e) (l := l)).2 ⟨z, hz, hb⟩; omega
  · intro h; rw [idxP_none h]; omega
theorem w59 (w : WorldP) (e : Int × Int) (h : okW w) : Contract Try.prog false 59 [.ro, .ro] [worldR w.1 w.2.1 w.2.2.1 w.2.2.2, .ag (eT e)] [.i .i64 (whereG e w.2.2.1 0).1, .i .i64 (whereG e w.2.2.1 0).2] [] := by
  refine mk_contract [] Try.func59 (c := Try.f59.body.get!) (by kernel_rfl) k59 r59 (of_decide_eq_true rfl) fun _ => ?_
  obtain ⟨h1, h2, ⟨h3, h4⟩, h5⟩ := h
  obtain ⟨g, f, ts, rs⟩ := w
  simp only at h1 h2 h3 h4 h5 ⊢
  unfold c59; simp
  refine twp_for ts.length (fun j s => s.t 2 = .pt [(4, 0)] 0 0 ∧ s.t 3 = .pt [(5, 0)] 0 0 ∧ s.t 6 = .i .i64 j ∧ noE e (ts.take j) ∧ s.H = lk [(1, []), (4, [.po true [.sl false 1 (g.map iT), .sl false 1 (f.map iT), .sl false 3 (ts.map tbT), .sl false 4 (rs.map vT)]]), (5, [.po true (eT e)])]) [] (by simp) ?_ ?_
  · simp
  · rintro j s hj ⟨q2, q3, q6, hn, qH⟩
    rw [nf_of qH]
    simp [q2, q3, q6]
    refine ⟨fun hlt => ?_, fun hge => ?_⟩
    · have hw : IntKind.i64.wrap (j + 1) = j + 1 := wrap_id (by omega) (by omega)
      obtain ⟨t, ht⟩ := get_some hlt
      have hm := List.mem_of_getElem? ht
      have hl := (h4 t hm).2.1
      refine twp_for t.2.1.length (fun i s2 => s2.t 2 = .pt [(4, 0)] 0 0 ∧ s2.t 3 = .pt [(5, 0)] 0 0 ∧ s2.t 6 = .i .i64 j ∧ s2.t 7 = .i .i64 i ∧ noI e (t.2.1.take i) ∧ s2.H = lk [(1, []), (4, [.po true [.sl false 1 (g.map iT), .sl false 1 (f.map iT), .sl false 3 (ts.map tbT), .sl false 4 (rs.map vT)]]), (5, [.po true (eT e)])]) [] (by simp) ?_ ?_
      · simp [q2, q3, q6]
      · rintro i s2 hi ⟨p2, p3, p6, p7, hni, pH⟩
        rw [nf_of pH]
        simp [p2, p3, p6, p7]
        simp [ht]
        refine ⟨fun hlt2 => ?_, fun hge2 => ?_⟩
        · have hwi : IntKind.i64.wrap (i + 1) = i + 1 := wrap_id (by omega) (by omega)
          obtain ⟨y, hy⟩ := get_some hlt2
          simp [ht, hy, p2, p3, p6, p7]
          by_cases hey : y = e
          · subst hey
            have hx := idxP_at hy (by simp [isE]) hni
            simp [p2, p3, p6, p7]
            rw [whereG_at hn ht (by omega), hx]; simp
          · have hne : (decide (y.1 = e.1) && decide (y.2 = e.2)) = false := by
              rw [Bool.eq_false_iff]; intro h
              simp only [Bool.and_eq_true, decide_eq_true_eq] at h
              exact hey (Prod.ext h.1 h.2)
            have hs : noI e (t.2.1.take (i + 1)) := by
              intro z hz
              rw [take_snoc hy] at hz
              rcases List.mem_append.1 hz with h | h
              · exact hni z h
              · simp at h; subst h; simp [isE, hey]
            simp [hne, hwi, p2, p3, p6, p7]
            exact ⟨hlt2, hs⟩
        · obtain rfl : i = t.2.1.length := by omega
          rw [List.take_of_length_le (Nat.le_refl _)] at hni
          simp [p2, p3, p6, p7, hw]
          exact ⟨hlt, noE_snoc hn ht (idxP_take.2 hni)⟩
    · obtain rfl : j = ts.length := by omega
      rw [List.take_of_length_le (Nat.le_refl _)] at hn
      rw [whereG_end hn]; simp
theorem w10 (w : WorldP) (e : Int × Int) (hb : bdW w) : Contract Try.prog false 10 [.ro, .ro] [worldR w.1 w.2.1 w.2.2.1 w.2.2.2, .ag (eT e)] [.b true] [] := by
  refine mk_contract [] Try.func10 (c := Try.f10.body.get!) (by kernel_rfl) k10 r10 (of_decide_eq_true rfl) fun _ => ?_
  unfold c10; simp
  refine callW_ms [.ro, .ro] ?_
  simp
  refine callX_of (w49 w _ hb (by omega) (by omega)) (by simp) ?_
  simp
  intro h
  obtain ⟨hk, _⟩ := szW_ok (by omega) (by omega) (by omega : ¬ szWF w 1048576 < 0)
  refine callW_ms [.ro] ?_
  simp
  refine callX_of (w51 w hk) (by simp) ?_
  simp
  refine callW_ms [.ro] ?_
  simp [entT]
  refine callX_of (w60 e.1 e.2) (by simp) ?_
  simp [entT]
  refine callW_ms [.ro, .ro] ?_
  simp
  refine callX_of (w59 w e hk) (by simp) ?_
  simp
  refine callW_ms [.ro] ?_
  simp
  refine callX_of (w51 w hk) (by simp) ?_
  simp
  refine callW_ms [.ro] ?_
  simp [entT]
  refine callX_of (w60 e.1 e.2) (by simp) ?_
  simp [entT]
  refine callW_ms [.ro, .ro] ?_
  simp
  refine callX_of (w61 w e hk) (by simp) ?_
  simp
  refine callW_ms [.ro] ?_
  simp
  refine callX_of (w51 w hk) (by simp) ?_
  simp
  refine callW_ms [.ro, .ro] ?_
  simp
  refine callX_of (w55 w hk) (by simp) ?_
  simp
end Go.Proofs.YtmedelmfkciblaaT
