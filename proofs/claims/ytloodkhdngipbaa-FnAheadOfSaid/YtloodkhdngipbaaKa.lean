/- Rows of integers: what the laws' helpers do. -/
import Derived.Test.YtloodkhdngipbaaTmAm
import Derived.Test.YtloodkhdngipbaaProg
namespace Go.Proofs.YtloodkhdngipbaaT
set_option linter.unusedVariables false
set_option linter.unusedSimpArgs false
open Go

/- impl.within -/
def c74 : TCode := (.seq (.ops [⟨(some 6), 8, .mv (.c (.b false)), none, []⟩])
  (.seq (.ops [⟨(some 7), 9, .mv (.t 0), none, []⟩, ⟨(some 8), 10, .mv (.t 1), none, []⟩, ⟨(some 9), 11, .bin .geq (.t 7) (.t 8), none, []⟩, ⟨(some 10), 12, .mv (.t 9), none, []⟩, ⟨(some 11), 13, .mv (.t 0), (some (10, true)), []⟩, ⟨(some 12), 14, .mv (.t 2), (some (10, true)), []⟩, ⟨(some 13), 15, .bin .leq (.t 11) (.t 12), (some (10, true)), []⟩, ⟨(some 14), 16, .pick (.t 10) (.t 13) (.c (.b false)), none, []⟩, ⟨(some 6), 8, .mv (.t 14), none, []⟩])
  .ret))
theorem k74 : compCode Try.prog Try.f74.ntmps Try.f74.body.get! = some c74 := by kernel_rfl
theorem r74 : resTmps Try.prog Try.f74.results.toList = some [.tmp 6] := by kernel_rfl
/- spec.l1In -/
def c71 : TCode := (.seq (.ops [⟨(some 6), 8, .mv (.c (.b false)), none, []⟩])
  (.seq (.ops [⟨(some 7), 9, .mv (.t 0), none, []⟩, ⟨(some 8), 10, .mv (.t 1), none, []⟩, ⟨(some 9), 11, .bin .geq (.t 7) (.t 8), none, []⟩, ⟨(some 10), 12, .mv (.t 9), none, []⟩, ⟨(some 11), 13, .mv (.t 0), (some (10, true)), []⟩, ⟨(some 12), 14, .mv (.t 2), (some (10, true)), []⟩, ⟨(some 13), 15, .bin .leq (.t 11) (.t 12), (some (10, true)), []⟩, ⟨(some 14), 16, .pick (.t 10) (.t 13) (.c (.b false)), none, []⟩, ⟨(some 6), 8, .mv (.t 14), none, []⟩])
  .ret))
theorem k71 : compCode Try.prog Try.f71.ntmps Try.f71.body.get! = some c71 := by kernel_rfl
theorem r71 : resTmps Try.prog Try.f71.results.toList = some [.tmp 6] := by kernel_rfl
/- laws.szIntS -/
def c107 : TCode := (.seq (.ops [⟨(some 4), 6, .mv (.c (.i .i64 0)), none, []⟩])
  (.seq (.ops [⟨(some 5), 7, .mv (.t 1), none, []⟩, ⟨(some 6), 8, .mv (.t 0), none, []⟩, ⟨(some 7), 9, .len false (.t 6), none, []⟩, ⟨(some 8), 10, .bin .sub (.t 5) (.t 7), none, []⟩, ⟨(some 1), 3, .mv (.t 8), none, []⟩])
  (.seq (.seq (.ops [⟨(some 9), 11, .mv (.t 1), none, []⟩, ⟨(some 10), 12, .bin .lss (.t 9) (.c (.i .i64 0)), none, []⟩])
  (.cond (.t 10)
  (.seq (.ops [⟨(some 4), 6, .mv (.c (.i .i64 (-1))), none, []⟩])
  .ret)
  .skip))
  (.seq (.ops [⟨(some 11), 13, .mv (.t 1), none, []⟩, ⟨(some 4), 6, .mv (.t 11), none, []⟩])
  .ret))))
theorem k107 : compCode Try.prog Try.f107.ntmps Try.f107.body.get! = some c107 := by kernel_rfl
theorem r107 : resTmps Try.prog Try.f107.results.toList = some [.tmp 4] := by kernel_rfl
/- impl.copyInts -/
def c137 : TCode := (.seq (.ops [⟨(some 2), 4, .mv (.c (.sl true 1 [])), none, []⟩])
  (.seq (.ops [⟨(some 3), 5, .mv (.t 0), none, []⟩, ⟨(some 4), 6, .app 1 8 (.c (.sl true 1 [])) (.t 3), none, []⟩, ⟨(some 2), 4, .mv (.t 4), none, []⟩])
  .ret))
theorem k137 : compCode Try.prog Try.f137.ntmps Try.f137.body.get! = some c137 := by kernel_rfl
theorem r137 : resTmps Try.prog Try.f137.results.toList = some [.tmp 2] := by kernel_rfl
/- laws.toIntS -/
def c110 : TCode := (.seq (.ops [⟨(some 2), 4, .mv (.c (.sl true 1 [])), none, []⟩])
  (.seq (.ops [⟨(some 5), 7, .mv (.t 0), none, []⟩, ⟨(some 6), 8, .len false (.t 5), none, []⟩, ⟨(some 7), 9, .mkslice 1 8 [(.i .i64 0)] (.t 6) (.t 6), none, []⟩, ⟨(some 3), 5, .mv (.t 7), none, []⟩])
  (.seq (.seq (.ops [⟨(some 4), 6, .mv (.c (.i .i64 0)), none, []⟩])
  (.block 0 (.loop (.seq (.seq (.ops [⟨(some 8), 10, .mv (.t 4), none, []⟩, ⟨(some 9), 11, .mv (.t 0), none, []⟩, ⟨(some 10), 12, .len false (.t 9), none, []⟩, ⟨(some 11), 13, .bin .lss (.t 8) (.t 10), none, []⟩])
  (.cond (.t 11)
  .skip
  (.exit 0)))
  (.seq (.block 1 (.ops [⟨(some 14), 16, .mv (.t 3), none, []⟩, ⟨(some 15), 17, .mv (.t 4), none, []⟩, ⟨(some 16), 18, .mv (.t 0), none, []⟩, ⟨(some 17), 19, .mv (.t 4), none, []⟩, ⟨(some 18), 20, .iaddr 1 (.t 16) (.t 17), none, []⟩, ⟨(some 19), 21, .load false 1 (.t 18), none, []⟩, ⟨(some 20), 22, .iaddr 1 (.t 14) (.t 15), none, []⟩, ⟨none, 1005007, .store 1 (.t 20) (.t 19), none, []⟩]))
  (.ops [⟨(some 12), 14, .mv (.t 4), none, []⟩, ⟨(some 13), 15, .bin .add (.t 12) (.c (.i .i64 1)), none, []⟩, ⟨(some 4), 6, .mv (.t 13), none, []⟩]))))))
  (.seq (.ops [⟨(some 21), 23, .mv (.t 3), none, []⟩, ⟨(some 2), 4, .mv (.t 21), none, []⟩])
  .ret))))
theorem k110 : compCode Try.prog Try.f110.ntmps Try.f110.body.get! = some c110 := by kernel_rfl
theorem r110 : resTmps Try.prog Try.f110.results.toList = some [.tmp 2] := by kernel_rfl
/- laws.eqIntS -/
def c115 : TCode := (.seq (.ops [⟨(some 4), 6, .mv (.c (.b false)), none, []⟩])
  (.seq (.seq (.ops [⟨(some 6), 8, .mv (.t 0), none, []⟩, ⟨(some 7), 9, .len false (.t 6), none, []⟩, ⟨(some 8), 10, .mv (.t 1), none, []⟩, ⟨(some 9), 11, .len false (.t 8), none, []⟩, ⟨(some 10), 12, .bin .neq (.t 7) (.t 9), none, []⟩])
  (.cond (.t 10)
  (.seq (.ops [⟨(some 4), 6, .mv (.c (.b false)), none, []⟩])
  .ret)
  .skip))
  (.seq (.seq (.ops [⟨(some 5), 7, .mv (.c (.i .i64 0)), none, []⟩])
  (.block 0 (.loop (.seq (.seq (.ops [⟨(some 11), 13, .mv (.t 5), none, []⟩, ⟨(some 12), 14, .mv (.t 0), none, []⟩, ⟨(some 13), 15, .len false (.t 12), none, []⟩, ⟨(some 14), 16, .bin .lss (.t 11) (.t 13), none, []⟩])
  (.cond (.t 14)
  .skip
  (.exit 0)))
  (.seq (.block 1 (.seq (.draw [⟨(some 17), 19, .mv (.t 0), none, []⟩, ⟨(some 18), 20, .mv (.t 5), none, []⟩, ⟨(some 19), 21, .iaddr 1 (.t 17) (.t 18), none, []⟩, ⟨(some 20), 22, .load false 1 (.t 19), none, []⟩, ⟨(some 21), 23, .mv (.t 1), none, []⟩, ⟨(some 22), 24, .mv (.t 5), none, []⟩, ⟨(some 23), 25, .iaddr 1 (.t 21) (.t 22), none, []⟩, ⟨(some 24), 26, .load false 1 (.t 23), none, []⟩, ⟨(some 25), 27, .bin .neq (.t 20) (.t 24), none, []⟩])
  (.cond (.t 25)
  (.seq (.ops [⟨(some 4), 6, .mv (.c (.b false)), none, []⟩])
  .ret)
  .skip)))
  (.ops [⟨(some 15), 17, .mv (.t 5), none, []⟩, ⟨(some 16), 18, .bin .add (.t 15) (.c (.i .i64 1)), none, []⟩, ⟨(some 5), 7, .mv (.t 16), none, []⟩]))))))
  (.seq (.ops [⟨(some 4), 6, .mv (.c (.b true)), none, []⟩])
  .ret))))
theorem k115 : compCode Try.prog Try.f115.ntmps Try.f115.body.get! = some c115 := by kernel_rfl
theorem r115 : resTmps Try.prog Try.f115.results.toList = some [.tmp 4] := by kernel_rfl
/- impl.isKind -/
def c101 : TCode := (.seq (.ops [⟨(some 2), 4, .mv (.c (.b false)), none, []⟩])
  (.seq (.ops [⟨(some 3), 5, .mv (.t 0), none, []⟩, ⟨(some 4), 6, .call 74 [((.t 3), 0), ((.c (.i .i64 1)), 0), ((.c (.i .i64 4)), 0)], none, []⟩, ⟨(some 2), 4, .mv (.t 4), none, []⟩])
  .ret))
theorem k101 : compCode Try.prog Try.f101.ntmps Try.f101.body.get! = some c101 := by kernel_rfl
theorem r101 : resTmps Try.prog Try.f101.results.toList = some [.tmp 2] := by kernel_rfl

theorem w74 (x lo hi : Int) : Contract Try.prog false 74 [.ro, .ro, .ro] [.i .i64 x, .i .i64 lo, .i .i64 hi] [.b (decide (lo ≤ x ∧ x ≤ hi))] [] := by
  refine mk_contract [] Try.func74 (c := Try.f74.body.get!) (by kernel_rfl) k74 r74 (of_decide_eq_true rfl) fun _ => ?_
  unfold c74; simp
  by_cases h : lo ≤ x <;> simp [h]
theorem w101 (k : Int) : Contract Try.prog false 101 [.ro] [.i .i64 k] [.b (decide (1 ≤ k ∧ k ≤ 4))] [] := by
  refine mk_contract [] Try.func101 (c := Try.f101.body.get!) (by kernel_rfl) k101 r101 (of_decide_eq_true rfl) fun _ => ?_
  unfold c101; simp
  refine callW_ms [.ro, .ro, .ro] ?_
  simp
  refine callX_of (w74 k 1 4) (by simp) ?_
  simp
theorem w71 (x lo hi : Int) : Contract Try.prog false 71 [.ro, .ro, .ro] [.i .i64 x, .i .i64 lo, .i .i64 hi] [.b (decide (lo ≤ x ∧ x ≤ hi))] [] := by
  refine mk_contract [] Try.func71 (c := Try.f71.body.get!) (by kernel_rfl) k71 r71 (of_decide_eq_true rfl) fun _ => ?_
  unfold c71; simp
  by_cases h : lo ≤ x <;> simp [h]

/-- What is left of n when k is taken off. -/
def szF (n k : Int) : Int := if n - k < 0 then -1 else n - k
theorem w107 (l : List Int) (n : Int) (hl : l.length < 2^63) (hn : n < 2^62) (hn0 : 0 ≤ n) : Contract Try.prog false 107 [.ro, .ro] [.sl false 1 (l.map iT), .i .i64 n] [.i .i64 (szF n l.length)] [] := by
  refine mk_contract [] Try.func107 (c := Try.f107.body.get!) (by kernel_rfl) k107 r107 (of_decide_eq_true rfl) fun _ => ?_
  have hw : IntKind.i64.wrap (n - l.length) = n - l.length := wrap_id (by omega) (by omega)
  unfold c107 szF; simp [hw]
  omega
theorem w137 (l : List Int) (hl : l.length ≤ 2^40) : Contract Try.prog false 137 [.ro] [.sl false 1 (l.map iT)] [.sl true 1 (l.map iT)] [] := by
  refine mk_contract [] Try.func137 (c := Try.f137.body.get!) (by kernel_rfl) k137 r137 (of_decide_eq_true rfl) fun _ => ?_
  unfold c137; simp
  omega
theorem w110 (l : List Int) (hl : l.length ≤ 2^40) : Contract Try.prog false 110 [.ro] [.sl false 1 (l.map iT)] [.sl true 1 (l.map iT)] [] := by
  refine mk_contract [] Try.func110 (c := Try.f110.body.get!) (by kernel_rfl) k110 r110 (of_decide_eq_true rfl) fun _ => ?_
  unfold c110; simp
  refine ⟨by omega, ?_⟩
  refine twp_for l.length (fun j s => s.t 0 = .sl false 1 (l.map iT) ∧ s.t 3 = .rf [(9, 0)] 0 l.length ∧ s.t 4 = .i .i64 j ∧
    s.H = lk [(1, []), (9, [.sl true 1 (List.take j (l.map iT) ++ List.replicate (l.length - j) [.i .i64 0])])]) [] (by simp) ?_ ?_
  · simp
  · rintro j s hj ⟨q0, q3, q4, qH⟩
    rw [nf_of qH]
    simp [q0, q3, q4]
    refine ⟨fun hlt => ?_, fun hge => ?_⟩
    · have hw : IntKind.i64.wrap (j + 1) = j + 1 := wrap_id (by omega) (by omega)
      obtain ⟨x, hx⟩ := get_some hlt
      have hm := fill_modify (L := l.map iT) (z := [.i .i64 0]) (φ := fun e => e.modify 0 fun _ => .i .i64 x) (j := j) (N := l.length) (by simp) (by simp [hx, iT])
      have hg := fill_get (L := l.map iT) (z := [.i .i64 0]) (j := j) (N := l.length) (by simp) hlt
      simp [hx, hw, q0, q3, q4, iT, hg, hm]
      omega
    · obtain rfl : j = l.length := by omega
      simp [q0, q3, q4]
theorem w115 (a b : List Int) (ha : a.length ≤ 2^40) (hb : b.length ≤ 2^40) : Contract Try.prog false 115 [.ro, .ro] [.sl false 1 (a.map iT), .sl false 1 (b.map iT)] [.b (decide (a = b))] [] := by
  refine mk_contract [] Try.func115 (c := Try.f115.body.get!) (by kernel_rfl) k115 r115 (of_decide_eq_true rfl) fun _ => ?_
  unfold c115; simp
  refine ⟨fun h => ?_, fun h => ?_⟩
  · refine twp_for a.length (fun j s => s.t 0 = .sl false 1 (a.map iT) ∧ s.t 1 = .sl false 1 (b.map iT) ∧ s.t 5 = .i .i64 j ∧ a.take j = b.take j ∧
      s.H = lk [(1, [])]) [] (by simp) ?_ ?_
    · simp
    · rintro j s hj ⟨q0, q1, q5, hab, qH⟩
      rw [nf_of qH]
      simp [q0, q1, q5]
      refine ⟨fun hlt => ?_, fun hge => ?_⟩
      · have hw : IntKind.i64.wrap (j + 1) = j + 1 := wrap_id (by omega) (by omega)
        obtain ⟨x, hx⟩ := get_some hlt
        obtain ⟨y, hy⟩ := get_some (l := b) (j := j) (by omega)
        simp [hx, hy, hw, q0, q1, q5, iT]
        refine ⟨fun hxy => ⟨hlt, ?_⟩, fun hxy hab => hxy (by subst hab; simpa [hx] using hy)⟩
        rw [List.take_add_one, List.take_add_one, hab, hx, hy, hxy]
      · obtain rfl : j = a.length := by omega
        rw [List.take_of_length_le (Nat.le_refl _), List.take_of_length_le (by omega)] at hab
        exact hab
  · rintro rfl; exact h rfl
theorem szF_lo (n k : Int) : -1 ≤ szF n k := by unfold szF; split <;> omega
theorem szF_le (n k : Int) (hk : 0 ≤ k) (hn : 0 ≤ n) : szF n k ≤ n := by unfold szF; split <;> omega
theorem szF_neg (n k : Int) (h : szF n k < 0) : szF n k = -1 := by have := szF_lo n k; omega
theorem szF_k (n k : Int) (h : 0 ≤ szF n k) : k ≤ n := by unfold szF at h; split at h <;> omega

/-! what is left when lists are counted -/
def szA {α : Type} (f : α → Int → Int) (l : List α) (n : Int) : Int := l.foldl (fun m x => if m < 0 then -1 else f x m) n
theorem szA_snoc {α : Type} (f : α → Int → Int) (l : List α) (x : α) (n : Int) : szA f (l ++ [x]) n = if szA f l n < 0 then -1 else f x (szA f l n) := by
  rw [szA, List.foldl_append]; rfl
@[simp] theorem szA_nil {α : Type} (f : α → Int → Int) (n : Int) : szA f [] n = n := rfl
theorem szA_neg {α : Type} (f : α → Int → Int) : ∀ (l : List α) (n : Int), n = -1 → szA f l n = -1
  | [], n, h => h
  | x :: l, n, h => by
    show szA f l (if n < 0 then -1 else f x n) = -1
    exact szA_neg f l _ (by simp [h])
theorem szA_app {α : Type} (f : α → Int → Int) (l r : List α) (n : Int) : szA f (l ++ r) n = szA f r (szA f l n) := by simp [szA, List.foldl_append]
theorem szA_take {α : Type} (f : α → Int → Int) (l : List α) (n : Int) (j : Nat) (h : szA f (l.take j) n = -1) : szA f l n = -1 := by
  rw [← List.take_append_drop j l, szA_app]; exact szA_neg f _ _ h
theorem szA_ok {α : Type} {f : α → Int → Int} (hf : ∀ x m, 0 ≤ m → f x m ≤ m) : ∀ (l : List α) (n : Int), 0 ≤ szA f l n → 0 ≤ n → szA f l n ≤ n ∧ ∀ x ∈ l, ∃ m, 0 ≤ m ∧ m ≤ n ∧ 0 ≤ f x m
  | [], n, h, h0 => ⟨Int.le_refl _, by simp⟩
  | x :: l, n, h, h0 => by
    have e : szA f (x :: l) n = szA f l (f x n) := by show szA f l (if n < 0 then -1 else f x n) = _; rw [if_neg (by omega)]
    rw [e] at h ⊢
    have hx : 0 ≤ f x n := by
      rcases Int.lt_or_le (f x n) 0 with h' | h'
      · exfalso
        cases l with
        | nil => simp at h; omega
        | cons y l =>
          have : szA f (y :: l) (f x n) = szA f l (-1) := by show szA f l (if f x n < 0 then -1 else f y (f x n)) = _; rw [if_pos h']
          rw [this, szA_neg f l _ rfl] at h; omega
      · exact h'
    have hle := hf x n h0
    obtain ⟨h1, h2⟩ := szA_ok hf l _ h hx
    refine ⟨by omega, fun y hy => ?_⟩
    rcases List.mem_cons.1 hy with rfl | hy
    · exact ⟨n, h0, Int.le_refl _, hx⟩
    · obtain ⟨m, m1, m2, m3⟩ := h2 y hy; exact ⟨m, m1, by omega, m3⟩
/-- A list: its length, then its parts. -/
def szS {α : Type} (f : α → Int → Int) (l : List α) (n : Int) : Int := if szF n l.length < 0 then -1 else szA f l (szF n l.length)

theorem szF_pos {n k : Int} (h : 0 ≤ szF n k) : szF n k = n - k ∧ k ≤ n := by unfold szF at h ⊢; split at h <;> split <;> omega
theorem szS_lo {α : Type} {f : α → Int → Int} {l : List α} {n : Int} (hf : ∀ x m, 0 ≤ m → f x m ≤ m) (h0 : 0 ≤ n) (h : ¬ szS f l n < 0) : 0 ≤ szS f l n ∧ szS f l n ≤ n ∧ (l.length : Int) ≤ n ∧ ∀ x ∈ l, ∃ m, 0 ≤ m ∧ m ≤ n ∧ 0 ≤ f x m := by
  unfold szS at h ⊢
  split at h
  · omega
  · rename_i h1
    rw [if_neg h1]
    obtain ⟨h2, h3⟩ := szF_pos (by omega : 0 ≤ szF n l.length)
    obtain ⟨h4, h5⟩ := szA_ok hf l _ (by omega) (by omega : 0 ≤ szF n l.length)
    refine ⟨by omega, by omega, by omega, fun x hx => ?_⟩
    obtain ⟨m, m1, m2, m3⟩ := h5 x hx
    exact ⟨m, m1, by omega, m3⟩
theorem szA_neg' {α : Type} {f : α → Int → Int} (hn : ∀ x m, f x m < 0 → f x m = -1) : ∀ (l : List α) (n : Int), 0 ≤ n → szA f l n < 0 → szA f l n = -1
  | [], n, h0, h => by simp at h; omega
  | x :: l, n, h0, h => by
    have e : szA f (x :: l) n = szA f l (f x n) := by show szA f l (if n < 0 then -1 else f x n) = _; rw [if_neg (by omega)]
    rw [e] at h ⊢
    rcases Int.lt_or_le (f x n) 0 with h' | h'
    · exact szA_neg f l _ (hn x n h')
    · exact szA_neg' hn l _ h' h
theorem szS_neg {α : Type} {f : α → Int → Int} (hn : ∀ x m, f x m < 0 → f x m = -1) (l : List α) (n : Int) (h : szS f l n < 0) : szS f l n = -1 := by
  unfold szS at h ⊢
  split
  · rfl
  · rename_i h1
    rw [if_neg h1] at h
    exact szA_neg' hn l _ (by omega) h
end Go.Proofs.YtloodkhdngipbaaT
