/- Trees; TreeSame. -/
import Derived.Test.YtmedelmfkciblaaKa
namespace Go.Proofs.YtmedelmfkciblaaT
set_option linter.unusedVariables false
set_option linter.unusedSimpArgs false
open Go

/- spec.l4Equal -/
def c115 : TCode := (.seq (.ops [⟨(some 4), 6, .mv (.c (.b false)), none, []⟩])
  (.seq (.seq (.ops [⟨(some 6), 8, .mv (.t 0), none, []⟩, ⟨(some 7), 9, .len false (.t 6), none, []⟩, ⟨(some 8), 10, .mv (.t 1), none, []⟩, ⟨(some 9), 11, .len false (.t 8), none, []⟩, ⟨(some 10), 12, .bin .neq (.t 7) (.t 9), none, []⟩])
  (.cond (.t 10)
  (.seq (.ops [⟨(some 4), 6, .mv (.c (.b false)), none, []⟩])
  .ret)
  .skip))
  (.seq (.seq (.ops [⟨(some 5), 7, .mv (.c (.i .i64 0)), none, []⟩])
  (.block 0 (.loop (.seq (.seq (.ops [⟨(some 11), 13, .mv (.t 5), none, []⟩, ⟨(some 12), 14, .mv (.t 0), none, []⟩, ⟨(some 13), 15, .len false (.t 12), none, []⟩, ⟨(some 14), 16, .bin .lss (.t 11) (.t 13), none, []⟩])
  (.cond (.t 14)
  .skip
  (.exit 0)))
  (.seq (.block 1 (.seq (.draw [⟨(some 17), 19, .mv (.t 0), none, []⟩, ⟨(some 18), 20, .mv (.t 5), none, []⟩, ⟨(some 19), 21, .iaddr 1 (.t 17) (.t 18), none, []⟩, ⟨(some 20), 22, .load false 1 (.t 19), none, []⟩, ⟨(some 21), 23, .mv (.t 1), none, []⟩, ⟨(some 22), 24, .mv (.t 5), none, []⟩, ⟨(some 23), 25, .iaddr 1 (.t 21) (.t 22), none, []⟩, ⟨(some 24), 26, .load false 1 (.t 23), none, []⟩, ⟨(some 25), 27, .bin .neq (.t 20) (.t 24), none, []⟩])
  (.cond (.t 25)
  (.seq (.ops [⟨(some 4), 6, .mv (.c (.b false)), none, []⟩])
  .ret)
  .skip)))
  (.ops [⟨(some 15), 17, .mv (.t 5), none, []⟩, ⟨(some 16), 18, .bin .add (.t 15) (.c (.i .i64 1)), none, []⟩, ⟨(some 5), 7, .mv (.t 16), none, []⟩]))))))
  (.seq (.ops [⟨(some 4), 6, .mv (.c (.b true)), none, []⟩])
  .ret))))
theorem k115 : compCode Try.prog Try.f115.ntmps Try.f115.body.get! = some c115 := by kernel_rfl
theorem r115 : resTmps Try.prog Try.f115.results.toList = some [.tmp 4] := by kernel_rfl
/- slices.Equal[[]int,int] -/
def c118 : TCode := (.seq (.ops [⟨(some 4), 6, .mv (.c (.b false)), none, []⟩])
  (.seq (.seq (.ops [⟨(some 6), 8, .mv (.t 0), none, []⟩, ⟨(some 7), 9, .len false (.t 6), none, []⟩, ⟨(some 8), 10, .mv (.t 1), none, []⟩, ⟨(some 9), 11, .len false (.t 8), none, []⟩, ⟨(some 10), 12, .bin .neq (.t 7) (.t 9), none, []⟩])
  (.cond (.t 10)
  (.seq (.ops [⟨(some 4), 6, .mv (.c (.b false)), none, []⟩])
  .ret)
  .skip))
  (.seq (.seq (.ops [⟨(some 11), 13, .mv (.t 0), none, []⟩, ⟨(some 12), 14, .len false (.t 11), none, []⟩, ⟨(some 13), 15, .mv (.c (.i .i64 0)), none, []⟩])
  (.block 0 (.loop (.seq (.ops [⟨(some 14), 16, .bin .lss (.t 13) (.t 12), none, []⟩])
  (.seq (.cond (.t 14)
  .skip
  (.exit 0))
  (.seq (.block 1 (.seq (.ops [⟨(some 15), 17, .mv (.t 13), none, []⟩, ⟨(some 5), 7, .mv (.t 15), none, []⟩])
  (.seq (.draw [⟨(some 16), 18, .mv (.t 0), none, []⟩, ⟨(some 17), 19, .mv (.t 5), none, []⟩, ⟨(some 18), 20, .iaddr 1 (.t 16) (.t 17), none, []⟩, ⟨(some 19), 21, .load false 1 (.t 18), none, []⟩, ⟨(some 20), 22, .mv (.t 1), none, []⟩, ⟨(some 21), 23, .mv (.t 5), none, []⟩, ⟨(some 22), 24, .iaddr 1 (.t 20) (.t 21), none, []⟩, ⟨(some 23), 25, .load false 1 (.t 22), none, []⟩, ⟨(some 24), 26, .bin .neq (.t 19) (.t 23), none, []⟩])
  (.cond (.t 24)
  (.seq (.ops [⟨(some 4), 6, .mv (.c (.b false)), none, []⟩])
  .ret)
  .skip))))
  (.ops [⟨(some 25), 27, .bin .add (.t 13) (.c (.i .i64 1)), none, []⟩, ⟨(some 13), 15, .mv (.t 25), none, []⟩])))))))
  (.seq (.ops [⟨(some 4), 6, .mv (.c (.b true)), none, []⟩])
  .ret))))
theorem k118 : compCode Try.prog Try.f118.ntmps Try.f118.body.get! = some c118 := by kernel_rfl
theorem r118 : resTmps Try.prog Try.f118.results.toList = some [.tmp 4] := by kernel_rfl

/-- Rows whose cells hold slices: one's own, and only read. -/
theorem fzLL_map2 {α : Type} {f g : α → List TV} (h : ∀ x, fzL (f x) = g x) (l : List α) : fzLL (l.map f) = l.map g := by
  induction l with
  | nil => rfl
  | cons a l ih => simp [fzLL, h, ih]

abbrev NodeP := Int × ByteArray × Int × List Int
@[simp] def nT (x : NodeP) : List TV := [.i .i64 x.1, .s x.2.1, .i .i64 x.2.2.1, .sl false 1 (x.2.2.2.map iT)]
@[simp] def nO (x : NodeP) : List TV := [.i .i64 x.1, .s x.2.1, .i .i64 x.2.2.1, .sl true 1 (x.2.2.2.map iT)]
@[simp] theorem fzL_nT (x : NodeP) : fzL (nT x) = nT x := by simp
@[simp] theorem fzL_nO (x : NodeP) : fzL (nO x) = nT x := by simp
@[simp] theorem fzLL_nT (l : List NodeP) : fzLL (l.map nT) = l.map nT := fzLL_map fzL_nT l
@[simp] theorem fzLL_nO (l : List NodeP) : fzLL (l.map nO) = l.map nT := fzLL_map2 fzL_nO l
@[simp] theorem noROLL_nO (l : List NodeP) : noROLL (l.map nO) = true := noROLL_map (fun _ => by simp [noROL, noRO]) l
@[simp] theorem noref_nT (l : List NodeP) : (l.map nT).all (·.all noref) = true := noref_map (fun _ => by simp) l
abbrev nodeR (x : NodeP) : TV := .ag (nT x)
abbrev nodeO (x : NodeP) : TV := .ag (nO x)

def szNodeF (x : NodeP) (n : Int) : Int := if szF n x.2.1.size < 0 then -1 else szF (szF n x.2.1.size) x.2.2.2.length
theorem szNode_le (x : NodeP) (n : Int) (h : 0 ≤ n) : szNodeF x n ≤ n := by unfold szNodeF szF; (repeat' split) <;> omega
theorem szNode_neg (x : NodeP) (n : Int) (h : szNodeF x n < 0) : szNodeF x n = -1 := by
  revert h; unfold szNodeF szF; (repeat' split) <;> omega
theorem szNode_pos {x : NodeP} {n : Int} (h : 0 ≤ szNodeF x n) : (x.2.2.2.length : Int) ≤ n := by
  revert h; unfold szNodeF szF; (repeat' split) <;> omega
abbrev treeR (l : List NodeP) (t : List Int) : TV := .ag [.sl false 4 (l.map nT), .sl false 1 (t.map iT)]
abbrev treeO (l : List NodeP) (t : List Int) : TV := .ag [.sl true 4 (l.map nO), .sl true 1 (t.map iT)]
def szTreeF (l : List NodeP) (t : List Int) (n : Int) : Int := if szS szNodeF l n < 0 then -1 else szF (szS szNodeF l n) t.length
theorem szTree_ok {l : List NodeP} {t : List Int} {n : Int} (h0 : 0 ≤ n) (h : ¬ szTreeF l t n < 0) : 0 ≤ szTreeF l t n ∧ szTreeF l t n ≤ n ∧ (l.length : Int) ≤ n ∧ (t.length : Int) ≤ n ∧ ∀ x ∈ l, (x.2.2.2.length : Int) ≤ n := by
  have e1 : ¬ szS szNodeF l n < 0 := fun h1 => h (by unfold szTreeF; rw [if_pos h1]; decide)
  obtain ⟨h1, h2, h3, h4⟩ := szS_lo szNode_le h0 e1
  have e : szTreeF l t n = szF (szS szNodeF l n) t.length := by unfold szTreeF; rw [if_neg e1]
  rw [e] at h ⊢
  have h5 : szF (szS szNodeF l n) t.length = szS szNodeF l n - t.length := by
    unfold szF at h ⊢; split at h <;> rename_i h6
    · exact absurd (by decide) h
    · rw [if_neg h6]
  rw [h5] at h ⊢
  refine ⟨by omega, by omega, h3, by omega, fun x hx => ?_⟩
  obtain ⟨m, m1, m2, m3⟩ := h4 x hx
  have := szNode_pos m3
  omega
theorem w115 (a b : List Int) (ha : a.length ≤ 2^40) (hb : b.length ≤ 2^40) : Contract Try.prog false 115 [.ro, .ro] [.sl false 1 (a.map iT), .sl false 1 (b.map iT)] [.b (decide (a = b))] [] := by
  refine mk_contract [] Try.func115 (c := Try.f115.body.get!) (by kernel_rfl) k115 r115 (of_decide_eq_true rfl) fun _ => ?_
  unfold c115; simp
  refine ⟨fun h => ?_, fun h => ?_⟩
  · refine twp_for a.length (fun j s => s.t 0 = .sl false 1 (a.map iT) ∧ s.t 1 = .sl false 1 (b.map iT) ∧ s.t 5 = .i .i64 j ∧ a.take j = b.take j ∧ s.H = lk [(1, [])]) [] (by simp) ?_ ?_
    · simp
    · rintro j s hj ⟨q0, q1, q5, hab, qH⟩
      rw [nf_of qH]
      simp [q0, q1, q5]
      refine ⟨fun hlt => ?_, fun hge => ?_⟩
      · have hw : IntKind.i64.wrap (j + 1) = j + 1 := wrap_id (by omega) (by omega)
        obtain ⟨x, hx⟩ := get_some hlt
        obtain ⟨y, hy⟩ := get_some (l := b) (j := j) (by omega)
        simp [hx, hy, hw, q0, q1, q5]
        refine ⟨fun hxy => ⟨hlt, by rw [take_snoc hx, take_snoc hy, hab, hxy]⟩, fun hxy hab => hxy (by subst hab; simpa [hx] using hy)⟩
      · obtain rfl : j = a.length := by omega
        rw [List.take_of_length_le (Nat.le_refl _), List.take_of_length_le (by omega)] at hab
        exact hab
  · rintro rfl; exact h rfl
theorem w118 (a b : List Int) (ha : a.length ≤ 2^40) (hb : b.length ≤ 2^40) : Contract Try.prog false 118 [.ro, .ro] [.sl false 1 (a.map iT), .sl false 1 (b.map iT)] [.b (decide (a = b))] [] := by
  refine mk_contract [] Try.func118 (c := Try.f118.body.get!) (by kernel_rfl) k118 r118 (of_decide_eq_true rfl) fun _ => ?_
  unfold c118; simp
  refine ⟨fun h => ?_, fun h => ?_⟩
  · refine twp_for a.length (fun j s => s.t 0 = .sl false 1 (a.map iT) ∧ s.t 1 = .sl false 1 (b.map iT) ∧ s.t 12 = .i .i64 a.length ∧ s.t 13 = .i .i64 j ∧ a.take j = b.take j ∧ s.H = lk [(1, [])]) [] (by simp) ?_ ?_
    · simp
    · rintro j s hj ⟨q0, q1, q12, q13, hab, qH⟩
      rw [nf_of qH]
      simp [q0, q1, q12, q13]
      refine ⟨fun hlt => ?_, fun hge => ?_⟩
      · have hw : IntKind.i64.wrap (j + 1) = j + 1 := wrap_id (by omega) (by omega)
        obtain ⟨x, hx⟩ := get_some hlt
        obtain ⟨y, hy⟩ := get_some (l := b) (j := j) (by omega)
        simp [hx, hy, hw, q0, q1, q12, q13]
        refine ⟨fun hxy => ⟨hlt, by rw [take_snoc hx, take_snoc hy, hab, hxy]⟩, fun hxy hab => hxy (by subst hab; simpa [hx] using hy)⟩
      · obtain rfl : j = a.length := by omega
        rw [List.take_of_length_le (Nat.le_refl _), List.take_of_length_le (by omega)] at hab
        exact hab
  · rintro rfl; exact h rfl
theorem node_ext {x y : NodeP} : x = y ↔ x.1 = y.1 ∧ x.2.1 = y.2.1 ∧ x.2.2.1 = y.2.2.1 ∧ x.2.2.2 = y.2.2.2 := by
  obtain ⟨a, b, c, d⟩ := x; obtain ⟨a', b', c', d'⟩ := y; simp
end Go.Proofs.YtmedelmfkciblaaT
