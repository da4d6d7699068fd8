/- Rows of things; EntList. -/
import Derived.Test.YtmedelmfkciblaaKe
namespace Go.Proofs.YtmedelmfkciblaaT
set_option linter.unusedVariables false
set_option linter.unusedSimpArgs false
open Go

/- laws.eqEntS -/
def c54 : TCode := (.seq (.ops [⟨(some 4), 6, .mv (.c (.b false)), none, []⟩])
  (.seq (.seq (.ops [⟨(some 6), 8, .mv (.t 0), none, []⟩, ⟨(some 7), 9, .len false (.t 6), none, []⟩, ⟨(some 8), 10, .mv (.t 1), none, []⟩, ⟨(some 9), 11, .len false (.t 8), none, []⟩, ⟨(some 10), 12, .bin .neq (.t 7) (.t 9), none, []⟩])
  (.cond (.t 10)
  (.seq (.ops [⟨(some 4), 6, .mv (.c (.b false)), none, []⟩])
  .ret)
  .skip))
  (.seq (.seq (.ops [⟨(some 5), 7, .mv (.c (.i .i64 0)), none, []⟩])
  (.block 0 (.loop (.seq (.seq (.ops [⟨(some 11), 13, .mv (.t 5), none, []⟩, ⟨(some 12), 14, .mv (.t 0), none, []⟩, ⟨(some 13), 15, .len false (.t 12), none, []⟩, ⟨(some 14), 16, .bin .lss (.t 11) (.t 13), none, []⟩])
  (.cond (.t 14)
  .skip
  (.exit 0)))
  (.seq (.block 1 (.seq (.draw [⟨(some 17), 19, .mv (.t 0), none, []⟩, ⟨(some 18), 20, .mv (.t 5), none, []⟩, ⟨(some 19), 21, .iaddr 2 (.t 17) (.t 18), none, []⟩, ⟨(some 20), 22, .load true 2 (.t 19), none, []⟩, ⟨(some 21), 23, .mv (.t 1), none, []⟩, ⟨(some 22), 24, .mv (.t 5), none, []⟩, ⟨(some 23), 25, .iaddr 2 (.t 21) (.t 22), none, []⟩, ⟨(some 24), 26, .load true 2 (.t 23), none, []⟩, ⟨(some 25), 27, .call 94 [((.t 20), 0), ((.t 24), 0)], none, []⟩, ⟨(some 26), 28, .un .not (.t 25), none, []⟩])
  (.cond (.t 26)
  (.seq (.ops [⟨(some 4), 6, .mv (.c (.b false)), none, []⟩])
  .ret)
  .skip)))
  (.ops [⟨(some 15), 17, .mv (.t 5), none, []⟩, ⟨(some 16), 18, .bin .add (.t 15) (.c (.i .i64 1)), none, []⟩, ⟨(some 5), 7, .mv (.t 16), none, []⟩]))))))
  (.seq (.ops [⟨(some 4), 6, .mv (.c (.b true)), none, []⟩])
  .ret))))
theorem k54 : compCode Try.prog Try.f54.ntmps Try.f54.body.get! = some c54 := by kernel_rfl
theorem r54 : resTmps Try.prog Try.f54.results.toList = some [.tmp 4] := by kernel_rfl
/- laws.markEntS -/
def c57 : TCode := (.seq (.ops [⟨(some 4), 6, .mv (.c (.i .i64 0)), none, []⟩])
  (.seq (.seq (.ops [⟨(some 5), 7, .mv (.c (.i .i64 0)), none, []⟩])
  (.block 0 (.loop (.seq (.seq (.ops [⟨(some 6), 8, .mv (.t 5), none, []⟩, ⟨(some 7), 9, .mv (.t 0), none, []⟩, ⟨(some 8), 10, .len false (.t 7), none, []⟩, ⟨(some 9), 11, .bin .lss (.t 6) (.t 8), none, []⟩])
  (.cond (.t 9)
  .skip
  (.exit 0)))
  (.seq (.block 1 (.seq (.ops [⟨(some 12), 14, .mv (.t 0), none, []⟩, ⟨(some 13), 15, .mv (.t 5), none, []⟩, ⟨(some 14), 16, .mv (.t 1), none, []⟩, ⟨(some 15), 17, .iaddr 2 (.t 12) (.t 13), none, []⟩, ⟨(some 16), 18, .faddr 0 1 (.t 15), none, []⟩, ⟨none, 1004005, .store 1 (.t 16) (.t 14), none, []⟩])
  (.seq (.ops [⟨(some 17), 19, .mv (.t 1), none, []⟩, ⟨(some 18), 20, .bin .add (.t 17) (.c (.i .i64 1)), none, []⟩, ⟨(some 1), 3, .mv (.t 18), none, []⟩])
  (.seq (.ops [⟨(some 19), 21, .mv (.t 0), none, []⟩, ⟨(some 20), 22, .mv (.t 5), none, []⟩, ⟨(some 21), 23, .mv (.t 1), none, []⟩, ⟨(some 22), 24, .iaddr 2 (.t 19) (.t 20), none, []⟩, ⟨(some 23), 25, .faddr 1 1 (.t 22), none, []⟩, ⟨none, 1006005, .store 1 (.t 23) (.t 21), none, []⟩])
  (.ops [⟨(some 24), 26, .mv (.t 1), none, []⟩, ⟨(some 25), 27, .bin .add (.t 24) (.c (.i .i64 1)), none, []⟩, ⟨(some 1), 3, .mv (.t 25), none, []⟩])))))
  (.ops [⟨(some 10), 12, .mv (.t 5), none, []⟩, ⟨(some 11), 13, .bin .add (.t 10) (.c (.i .i64 1)), none, []⟩, ⟨(some 5), 7, .mv (.t 11), none, []⟩]))))))
  (.seq (.ops [⟨(some 26), 28, .mv (.t 1), none, []⟩, ⟨(some 4), 6, .mv (.t 26), none, []⟩])
  .ret)))
theorem k57 : compCode Try.prog Try.f57.ntmps Try.f57.body.get! = some c57 := by kernel_rfl
theorem r57 : resTmps Try.prog Try.f57.results.toList = some [.tmp 4] := by kernel_rfl
/- laws.heldEntS -/
def c58 : TCode := (.seq (.ops [⟨(some 4), 6, .mv (.c (.i .i64 0)), none, []⟩])
  (.seq (.seq (.ops [⟨(some 5), 7, .mv (.c (.i .i64 0)), none, []⟩])
  (.block 0 (.loop (.seq (.seq (.ops [⟨(some 6), 8, .mv (.t 5), none, []⟩, ⟨(some 7), 9, .mv (.t 0), none, []⟩, ⟨(some 8), 10, .len false (.t 7), none, []⟩, ⟨(some 9), 11, .bin .lss (.t 6) (.t 8), none, []⟩])
  (.cond (.t 9)
  .skip
  (.exit 0)))
  (.seq (.block 1 (.seq (.seq (.ops [⟨(some 12), 14, .mv (.t 0), none, []⟩, ⟨(some 13), 15, .mv (.t 5), none, []⟩, ⟨(some 14), 16, .iaddr 2 (.t 12) (.t 13), none, []⟩, ⟨(some 15), 17, .faddr 0 1 (.t 14), none, []⟩, ⟨(some 16), 18, .load false 1 (.t 15), none, []⟩, ⟨(some 17), 19, .mv (.t 1), none, []⟩, ⟨(some 18), 20, .bin .neq (.t 16) (.t 17), none, []⟩])
  (.cond (.t 18)
  (.seq (.ops [⟨(some 4), 6, .mv (.c (.i .i64 (-1))), none, []⟩])
  .ret)
  .skip))
  (.seq (.ops [⟨(some 19), 21, .mv (.t 1), none, []⟩, ⟨(some 20), 22, .bin .add (.t 19) (.c (.i .i64 1)), none, []⟩, ⟨(some 1), 3, .mv (.t 20), none, []⟩])
  (.seq (.seq (.ops [⟨(some 21), 23, .mv (.t 0), none, []⟩, ⟨(some 22), 24, .mv (.t 5), none, []⟩, ⟨(some 23), 25, .iaddr 2 (.t 21) (.t 22), none, []⟩, ⟨(some 24), 26, .faddr 1 1 (.t 23), none, []⟩, ⟨(some 25), 27, .load false 1 (.t 24), none, []⟩, ⟨(some 26), 28, .mv (.t 1), none, []⟩, ⟨(some 27), 29, .bin .neq (.t 25) (.t 26), none, []⟩])
  (.cond (.t 27)
  (.seq (.ops [⟨(some 4), 6, .mv (.c (.i .i64 (-1))), none, []⟩])
  .ret)
  .skip))
  (.ops [⟨(some 28), 30, .mv (.t 1), none, []⟩, ⟨(some 29), 31, .bin .add (.t 28) (.c (.i .i64 1)), none, []⟩, ⟨(some 1), 3, .mv (.t 29), none, []⟩])))))
  (.ops [⟨(some 10), 12, .mv (.t 5), none, []⟩, ⟨(some 11), 13, .bin .add (.t 10) (.c (.i .i64 1)), none, []⟩, ⟨(some 5), 7, .mv (.t 11), none, []⟩]))))))
  (.seq (.ops [⟨(some 30), 32, .mv (.t 1), none, []⟩, ⟨(some 4), 6, .mv (.t 30), none, []⟩])
  .ret)))
theorem k58 : compCode Try.prog Try.f58.ntmps Try.f58.body.get! = some c58 := by kernel_rfl
theorem r58 : resTmps Try.prog Try.f58.results.toList = some [.tmp 4] := by kernel_rfl
/- spec.EntList -/
def c218 : TCode := (.seq (.ops [⟨(some 1), 3, .box 2 (.t 0), none, []⟩, ⟨(some 2), 4, .mv (.c (.sl true 2 [])), none, []⟩])
  (.seq (.ops [⟨(some 7), 9, .bslice 2 0 [(.i .i64 0), (.i .i64 0)] [], none, []⟩, ⟨(some 3), 5, .mv (.t 7), none, []⟩])
  (.seq (.seq (.ops [⟨(some 8), 10, .load true 2 (.t 1), none, []⟩, ⟨(some 9), 11, .call 234 [((.t 8), 0)], none, []⟩, ⟨(some 10), 12, .un .not (.t 9), none, []⟩])
  (.cond (.t 10)
  (.seq (.ops [⟨(some 11), 13, .mv (.t 3), none, []⟩, ⟨(some 2), 4, .mv (.t 11), none, []⟩])
  .ret)
  .skip))
  (.seq (.ops [⟨(some 12), 14, .faddr 0 1 (.t 1), none, []⟩, ⟨(some 13), 15, .load false 1 (.t 12), none, []⟩, ⟨(some 14), 16, .len false (.t 13), none, []⟩, ⟨(some 15), 17, .mkslice 1 1 [(.b false)] (.t 14) (.t 14), none, []⟩, ⟨(some 4), 6, .mv (.t 15), none, []⟩])
  (.seq (.seq (.ops [⟨(some 5), 7, .mv (.c (.i .i64 0)), none, []⟩])
  (.block 0 (.loop (.seq (.seq (.ops [⟨(some 16), 18, .mv (.t 5), none, []⟩, ⟨(some 17), 19, .faddr 1 1 (.t 1), none, []⟩, ⟨(some 18), 20, .load false 1 (.t 17), none, []⟩, ⟨(some 19), 21, .len false (.t 18), none, []⟩, ⟨(some 20), 22, .bin .lss (.t 16) (.t 19), none, []⟩])
  (.cond (.t 20)
  .skip
  (.exit 0)))
  (.seq (.block 1 (.ops [⟨(some 23), 25, .mv (.t 4), none, []⟩, ⟨(some 24), 26, .faddr 1 1 (.t 1), none, []⟩, ⟨(some 25), 27, .load false 1 (.t 24), none, []⟩, ⟨(some 26), 28, .mv (.t 5), none, []⟩, ⟨(some 27), 29, .iaddr 1 (.t 25) (.t 26), none, []⟩, ⟨(some 28), 30, .load false 1 (.t 27), none, []⟩, ⟨(some 29), 31, .iaddr 1 (.t 23) (.t 28), none, []⟩, ⟨none, 1008007, .store 1 (.t 29) (.c (.b true)), none, []⟩]))
  (.ops [⟨(some 21), 23, .mv (.t 5), none, []⟩, ⟨(some 22), 24, .bin .add (.t 21) (.c (.i .i64 1)), none, []⟩, ⟨(some 5), 7, .mv (.t 22), none, []⟩]))))))
  (.seq (.seq (.ops [⟨(some 6), 8, .mv (.c (.i .i64 0)), none, []⟩])
  (.block 2 (.loop (.seq (.seq (.ops [⟨(some 30), 32, .mv (.t 6), none, []⟩, ⟨(some 31), 33, .faddr 0 1 (.t 1), none, []⟩, ⟨(some 32), 34, .load false 1 (.t 31), none, []⟩, ⟨(some 33), 35, .len false (.t 32), none, []⟩, ⟨(some 34), 36, .bin .lss (.t 30) (.t 33), none, []⟩])
  (.cond (.t 34)
  .skip
  (.exit 2)))
  (.seq (.block 3 (.seq (.ops [⟨(some 37), 39, .mv (.t 4), none, []⟩, ⟨(some 38), 40, .mv (.t 6), none, []⟩, ⟨(some 39), 41, .iaddr 1 (.t 37) (.t 38), none, []⟩, ⟨(some 40), 42, .load false 1 (.t 39), none, []⟩, ⟨(some 41), 43, .un .not (.t 40), none, []⟩])
  (.cond (.t 41)
  (.ops [⟨(some 42), 44, .mv (.t 3), none, []⟩, ⟨(some 43), 45, .mv (.t 6), none, []⟩, ⟨(some 44), 46, .faddr 0 1 (.t 1), none, []⟩, ⟨(some 45), 47, .load false 1 (.t 44), none, []⟩, ⟨(some 46), 48, .mv (.t 6), none, []⟩, ⟨(some 47), 49, .iaddr 1 (.t 45) (.t 46), none, []⟩, ⟨(some 48), 50, .load false 1 (.t 47), none, []⟩, ⟨(some 49), 51, .build [(.i .i64 0), (.i .i64 0)] [(0, 1, (.t 43)), (1, 1, (.t 48))], none, []⟩, ⟨(some 50), 52, .bslice 2 1 [(.i .i64 0), (.i .i64 0)] [(0, (.t 49))], none, []⟩, ⟨(some 51), 53, .app 2 16 (.t 42) (.t 50), none, []⟩, ⟨(some 3), 5, .mv (.t 51), none, []⟩])
  .skip)))
  (.ops [⟨(some 35), 37, .mv (.t 6), none, []⟩, ⟨(some 36), 38, .bin .add (.t 35) (.c (.i .i64 1)), none, []⟩, ⟨(some 6), 8, .mv (.t 36), none, []⟩]))))))
  (.seq (.ops [⟨(some 52), 54, .mv (.t 3), none, []⟩, ⟨(some 2), 4, .mv (.t 52), none, []⟩])
  .ret)))))))
theorem k218 : compCode Try.prog Try.f218.ntmps Try.f218.body.get! = some c218 := by kernel_rfl
theorem r218 : resTmps Try.prog Try.f218.results.toList = some [.tmp 2] := by kernel_rfl

@[simp] def eT (p : Int × Int) : List TV := [.i .i64 p.1, .i .i64 p.2]
@[simp] theorem fzL_eT (p : Int × Int) : fzL (eT p) = eT p := rfl
@[simp] theorem fzLL_eT (l : List (Int × Int)) : fzLL (l.map eT) = l.map eT := fzLL_map fzL_eT l
@[simp] theorem noROLL_eT (l : List (Int × Int)) : noROLL (l.map eT) = true := noROLL_map (fun _ => rfl) l
@[simp] theorem noref_eT (l : List (Int × Int)) : (l.map eT).all (·.all noref) = true := noref_map (fun _ => rfl) l
@[simp] theorem srcT_eT (H : Hp) (z : Nat) (l : List (Int × Int)) : srcT H (.sl false z (l.map eT)) = some (z, l.map eT, H, []) := by simp only [srcT, noref_eT, if_true]

theorem w54 (a b : List (Int × Int)) (ha : a.length ≤ 2^40) (hb : b.length ≤ 2^40) : Contract Try.prog false 54 [.ro, .ro] [.sl false 2 (a.map eT), .sl false 2 (b.map eT)] [.b (decide (a = b))] [] := by
  refine mk_contract [] Try.func54 (c := Try.f54.body.get!) (by kernel_rfl) k54 r54 (of_decide_eq_true rfl) fun _ => ?_
  unfold c54; simp
  refine ⟨fun h => ?_, fun h => ?_⟩
  · refine twp_for a.length (fun j s => s.t 0 = .sl false 2 (a.map eT) ∧ s.t 1 = .sl false 2 (b.map eT) ∧ s.t 5 = .i .i64 j ∧ a.take j = b.take j ∧ s.H = lk [(1, [])]) [] (by simp) ?_ ?_
    · simp
    · rintro j s hj ⟨q0, q1, q5, hab, qH⟩
      rw [nf_of qH]
      simp [q0, q1, q5]
      refine ⟨fun hlt => ?_, fun hge => ?_⟩
      · have hw : IntKind.i64.wrap (j + 1) = j + 1 := wrap_id (by omega) (by omega)
        obtain ⟨x, hx⟩ := get_some hlt
        obtain ⟨y, hy⟩ := get_some (l := b) (j := j) (by omega)
        simp [hx, hy, hw, q0, q1, q5]
        by_cases hxy : x = y
        · refine callW_ms [.ro, .ro] ?_
          simp [entT]
          refine callX_of ((w94 x.1 x.2 y.1 y.2).t ⟨by rw [hxy], by rw [hxy]⟩) (by simp) ?_
          simp [hw, q0, q1, q5]
          exact ⟨hlt, by rw [take_snoc hx, take_snoc hy, hab, hxy]⟩
        · refine callW_ms [.ro, .ro] ?_
          simp [entT]
          refine callX_of ((w94 x.1 x.2 y.1 y.2).f (fun h => hxy (Prod.ext h.1 h.2))) (by simp) ?_
          simp [hw, q0, q1, q5]
          intro hab2; subst hab2; rw [hx] at hy; cases hy; exact absurd rfl hxy
      · obtain rfl : j = a.length := by omega
        rw [List.take_of_length_le (Nat.le_refl _), List.take_of_length_le (by omega)] at hab
        exact hab
  · rintro rfl; exact h rfl
theorem w57 (l : List (Int × Int)) (k : Int) (hl : l.length ≤ 2^38) (hk : 0 ≤ k) (hk2 : k ≤ 2^40) : Contract Try.prog false 57 [.own, .ro] [.sl true 2 (l.map eT), .i .i64 k] [.i .i64 (k + 2 * l.length)] [some (.sl true 2 ((mkL 2 (fun k => (k, k + 1)) k l.length).map eT))] := by
  refine mk_contract [some [(1, 0)]] Try.func57 (c := Try.f57.body.get!) (by kernel_rfl) k57 r57 (of_decide_eq_true rfl) fun _ => ?_
  unfold c57; simp
  refine twp_for l.length (fun j s => s.t 0 = .rf [(1, 0)] 0 l.length ∧ s.t 1 = .i .i64 (k + 2 * j) ∧ s.t 5 = .i .i64 j ∧ s.H = lk [(1, [.sl true 2 ((mkL 2 (fun k => (k, k + 1)) k j).map eT ++ (l.map eT).drop j)])]) [] (by simp) ?_ ?_
  · simp
  · rintro j s hj ⟨q0, q1, q5, qH⟩
    rw [nf_of qH]
    simp [q0, q1, q5]
    refine ⟨fun hlt => ?_, fun hge => ?_⟩
    · have hw : IntKind.i64.wrap (j + 1) = j + 1 := wrap_id (by omega) (by omega)
      obtain ⟨x, hx⟩ := get_some hlt
      have hw1 : IntKind.i64.wrap (k + 2 * j + 1) = k + 2 * j + 1 := wrap_id (by omega) (by omega)
      have hw2 : IntKind.i64.wrap (k + 2 * j + 1 + 1) = k + 2 * j + 1 + 1 := wrap_id (by omega) (by omega)
      simp [hw, hw1, hw2, q0, q1, q5, drop_at hx]
      omega
    · obtain rfl : j = l.length := by omega
      simp [q0, q1, q5]
theorem w58 (n : Nat) (k : Int) (hl : n ≤ 2^38) (hk : 0 ≤ k) (hk2 : k ≤ 2^40) : Contract Try.prog false 58 [.ro, .ro] [.sl false 2 ((mkL 2 (fun k => (k, k + 1)) k n).map eT), .i .i64 k] [.i .i64 (k + 2 * n)] [] := by
  refine mk_contract [] Try.func58 (c := Try.f58.body.get!) (by kernel_rfl) k58 r58 (of_decide_eq_true rfl) fun _ => ?_
  unfold c58; simp
  refine twp_for n (fun j s => s.t 0 = .sl false 2 ((mkL 2 (fun k => (k, k + 1)) k n).map eT) ∧ s.t 1 = .i .i64 (k + 2 * j) ∧ s.t 5 = .i .i64 j ∧ s.H = lk [(1, [])]) [] (by simp) ?_ ?_
  · simp
  · rintro j s hj ⟨q0, q1, q5, qH⟩
    rw [nf_of qH]
    simp [q0, q1, q5]
    refine ⟨fun hlt => ?_, fun hge => ?_⟩
    · have hw : IntKind.i64.wrap (j + 1) = j + 1 := wrap_id (by omega) (by omega)
      have hx := mkL_get 2 (fun k => (k, k + 1)) k hlt
      have hw1 : IntKind.i64.wrap (k + 2 * j + 1) = k + 2 * j + 1 := wrap_id (by omega) (by omega)
      have hw2 : IntKind.i64.wrap (k + 2 * j + 1 + 1) = k + 2 * j + 1 + 1 := wrap_id (by omega) (by omega)
      simp [hx, hw, hw1, hw2, q0, q1, q5]
      omega
    · obtain rfl : j = n := by omega
      simp [q0, q1, q5]

/-- The places that are not free, with their gens. -/
def liveG (g f : List Int) : Nat → List (Int × Int)
  | 0 => []
  | n + 1 => liveG g f n ++ (if (n : Int) ∈ f then [] else [((n : Int), (g[n]?).getD 0)])
theorem liveG_len (g f : List Int) (n : Nat) : (liveG g f n).length ≤ n := by
  induction n with
  | zero => simp [liveG]
  | succ n ih => simp only [liveG, List.length_append]; split <;> simp <;> omega
def entListF (g f : List Int) : List (Int × Int) := if EntsOkP g f then liveG g f g.length else []
theorem entListF_len (g f : List Int) : (entListF g f).length ≤ g.length := by
  unfold entListF; split
  · exact liveG_len ..
  · simp
theorem w218 (g f : List Int) (hg : g.length ≤ 2^40) (hf : f.length ≤ 2^40) : Contract Try.prog false 218 [.ro] [entsR g f] [.sl true 2 ((entListF g f).map eT)] [] := by
  refine mk_contract [] Try.func218 (c := Try.f218.body.get!) (by kernel_rfl) k218 r218 (of_decide_eq_true rfl) fun _ => ?_
  unfold c218; unfold entsR; simp
  refine callW_ms [.ro] ?_
  simp
  refine callX_of (w234 g f hg hf) (by simp) ?_
  simp
  refine ⟨fun hE => ?_, fun hE => ?_⟩
  · refine ⟨by omega, ?_⟩
    refine twp_for f.length (fun j s => s.t 1 = .pt [(3, 0)] 0 0 ∧ s.t 3 = .rf [(9, 0)] 0 0 ∧ s.t 4 = .rf [(17, 0)] 0 g.length ∧ s.t 5 = .i .i64 j ∧ s.H = lk [(1, []), (3, [.po true [.sl false 1 (g.map iT), .sl false 1 (f.map iT)]]), (9, [.sl true 2 []]), (17, [.sl true 1 ((freeL g.length (f.take j)).map bT)])]) [] (by simp) ?_ ?_
    · simp
    · rintro j s hj ⟨q1, q3, q4, q5, qH⟩
      rw [nf_of qH]
      simp [q1, q3, q4, q5]
      refine ⟨fun hlt => ?_, fun hge => ?_⟩
      · have hw : IntKind.i64.wrap (j + 1) = j + 1 := wrap_id (by omega) (by omega)
        obtain ⟨x, hx⟩ := get_some hlt
        have hb := hE.2.1.1 x (List.mem_of_getElem? hx)
        have hgt := freeL_get (n := g.length) (f := f.take j) (x := x) hb.1 hb.2
        have hset : (List.map bT (freeL g.length (f.take j))).set x.toNat [.b true] = List.map bT (freeL g.length (f.take (j + 1))) := by
          rw [take_snoc hx, ← freeL_set hb.1 hb.2]; simp
        simp [hx, hw, q1, q3, q4, q5, hb.1, hb.2, hgt, hset]
        omega
      · obtain rfl : j = f.length := by omega
        simp [q1, q3, q4, q5]
        refine twp_forR g.length (fun j s => s.t 1 = .pt [(3, 0)] 0 0 ∧ s.t 3 = .rf [(53, 0)] 0 (liveG g f j).length ∧ s.t 4 = .rf [(17, 0)] 0 g.length ∧ s.t 6 = .i .i64 j ∧ s.H = lk [(1, []), (3, [.po true [.sl false 1 (g.map iT), .sl false 1 (f.map iT)]]), (53, [.sl true 2 ((liveG g f j).map eT)]), (17, [.sl true 1 ((freeL g.length f).map bT)])]) [52] [(9, 53)] (by simp) (by simp) ?_ ?_
        · simp [q1, q3, q4, liveG]
        · rintro j s hj ⟨q1, q3, q4, q6, qH⟩
          rw [nf_of qH]
          simp [q1, q3, q4, q6]
          refine ⟨fun hlt => ?_, fun hge => ?_⟩
          · have hw : IntKind.i64.wrap (j + 1) = j + 1 := wrap_id (by omega) (by omega)
            obtain ⟨x, hx⟩ := get_some hlt
            have hgt := freeL_get (n := g.length) (f := f) (x := j) (by omega) (by omega)
            simp at hgt
            have hll := liveG_len g f j
            simp [hx, hw, q1, q3, q4, q6, hgt]
            refine ⟨hlt, fun h => ?_, fun h => ?_⟩
            · simp [liveG, h, hlt]
            · refine ⟨by omega, hlt, ?_⟩; simp [liveG, h, hx]
          · obtain rfl : j = g.length := by omega
            simp [q1, q3, q4, q6, entListF, hE]
  · simp [entListF, hE]
end Go.Proofs.YtmedelmfkciblaaT
