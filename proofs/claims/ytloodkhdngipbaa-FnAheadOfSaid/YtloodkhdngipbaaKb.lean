/- Ents: whether they are right. -/
import Derived.Test.YtloodkhdngipbaaKa
namespace Go.Proofs.YtloodkhdngipbaaT
set_option linter.unusedVariables false
set_option linter.unusedSimpArgs false
open Go

/- impl.freed -/
def c98 : TCode := (.seq (.ops [⟨(some 1), 3, .box 2 (.t 0), none, []⟩, ⟨(some 2), 4, .mv (.c (.sl true 1 [])), none, []⟩, ⟨(some 3), 5, .mv (.c (.b false)), none, []⟩])
  (.seq (.ops [⟨(some 7), 9, .faddr 0 1 (.t 1), none, []⟩, ⟨(some 8), 10, .load false 1 (.t 7), none, []⟩, ⟨(some 9), 11, .len false (.t 8), none, []⟩, ⟨(some 10), 12, .mkslice 1 1 [(.b false)] (.t 9) (.t 9), none, []⟩, ⟨(some 4), 6, .mv (.t 10), none, []⟩])
  (.seq (.seq (.ops [⟨(some 11), 13, .faddr 1 1 (.t 1), none, []⟩, ⟨(some 12), 14, .load false 1 (.t 11), none, []⟩, ⟨(some 13), 15, .len false (.t 12), none, []⟩, ⟨(some 14), 16, .mv (.c (.i .i64 0)), none, []⟩])
  (.block 0 (.loop (.seq (.ops [⟨(some 15), 17, .bin .lss (.t 14) (.t 13), none, []⟩])
  (.seq (.cond (.t 15)
  .skip
  (.exit 0))
  (.seq (.block 1 (.seq (.ops [⟨(some 16), 18, .iaddr 1 (.t 12) (.t 14), none, []⟩, ⟨(some 17), 19, .load false 1 (.t 16), none, []⟩, ⟨(some 6), 8, .mv (.t 17), none, []⟩])
  (.seq (.seq (.ops [⟨(some 18), 20, .mv (.t 6), none, []⟩, ⟨(some 19), 21, .faddr 0 1 (.t 1), none, []⟩, ⟨(some 20), 22, .load false 1 (.t 19), none, []⟩, ⟨(some 21), 23, .len false (.t 20), none, []⟩, ⟨(some 22), 24, .bin .sub (.t 21) (.c (.i .i64 1)), none, []⟩, ⟨(some 23), 25, .call 74 [((.t 18), 0), ((.c (.i .i64 0)), 0), ((.t 22), 0)], none, []⟩, ⟨(some 24), 26, .un .not (.t 23), none, []⟩, ⟨(some 25), 27, .mv (.t 24), none, []⟩, ⟨(some 26), 28, .mv (.t 4), (some (25, false)), []⟩, ⟨(some 27), 29, .mv (.t 6), (some (25, false)), []⟩, ⟨(some 28), 30, .iaddr 1 (.t 26) (.t 27), (some (25, false)), []⟩, ⟨(some 29), 31, .load false 1 (.t 28), (some (25, false)), []⟩, ⟨(some 30), 32, .pick (.t 25) (.c (.b true)) (.t 29), none, []⟩])
  (.cond (.t 30)
  (.seq (.ops [⟨(some 2), 4, .mv (.c (.sl true 1 [])), none, []⟩, ⟨(some 3), 5, .mv (.c (.b false)), none, []⟩])
  .ret)
  .skip))
  (.ops [⟨(some 31), 33, .mv (.t 4), none, []⟩, ⟨(some 32), 34, .mv (.t 6), none, []⟩, ⟨(some 33), 35, .iaddr 1 (.t 31) (.t 32), none, []⟩, ⟨none, 1007003, .store 1 (.t 33) (.c (.b true)), none, []⟩]))))
  (.ops [⟨(some 34), 36, .bin .add (.t 14) (.c (.i .i64 1)), none, []⟩, ⟨(some 14), 16, .mv (.t 34), none, []⟩])))))))
  (.seq (.ops [⟨(some 35), 37, .mv (.t 4), none, []⟩, ⟨(some 2), 4, .mv (.t 35), none, []⟩, ⟨(some 3), 5, .mv (.c (.b true)), none, []⟩])
  .ret))))
theorem k98 : compCode Try.prog Try.f98.ntmps Try.f98.body.get! = some c98 := by kernel_rfl
theorem r98 : resTmps Try.prog Try.f98.results.toList = some [.tmp 2, .tmp 3] := by kernel_rfl
/- impl.EntsOk -/
def c89 : TCode := (.seq (.ops [⟨(some 1), 3, .box 2 (.t 0), none, []⟩, ⟨(some 2), 4, .mv (.c (.b false)), none, []⟩])
  (.seq (.seq (.ops [⟨(some 7), 9, .faddr 0 1 (.t 1), none, []⟩, ⟨(some 8), 10, .load false 1 (.t 7), none, []⟩, ⟨(some 9), 11, .len false (.t 8), none, []⟩, ⟨(some 10), 12, .mv (.c (.i .i64 0)), none, []⟩])
  (.block 0 (.loop (.seq (.ops [⟨(some 11), 13, .bin .lss (.t 10) (.t 9), none, []⟩])
  (.seq (.cond (.t 11)
  .skip
  (.exit 0))
  (.seq (.block 1 (.seq (.ops [⟨(some 12), 14, .iaddr 1 (.t 8) (.t 10), none, []⟩, ⟨(some 13), 15, .load false 1 (.t 12), none, []⟩, ⟨(some 4), 6, .mv (.t 13), none, []⟩])
  (.seq (.ops [⟨(some 14), 16, .mv (.t 4), none, []⟩, ⟨(some 15), 17, .call 74 [((.t 14), 0), ((.c (.i .i64 0)), 0), ((.c (.i .i64 1000000)), 0)], none, []⟩, ⟨(some 16), 18, .un .not (.t 15), none, []⟩])
  (.cond (.t 16)
  (.seq (.ops [⟨(some 2), 4, .mv (.c (.b false)), none, []⟩])
  .ret)
  .skip))))
  (.ops [⟨(some 17), 19, .bin .add (.t 10) (.c (.i .i64 1)), none, []⟩, ⟨(some 10), 12, .mv (.t 17), none, []⟩])))))))
  (.seq (.ops [⟨(some 19), 21, .load true 2 (.t 1), none, []⟩, ⟨(some 20), 22, .call 98 [((.t 19), 0)], none, []⟩, ⟨(some 18), 20, .mv (.t 20), none, []⟩, ⟨(some 21), 23, .ext 0 (.t 18), none, []⟩, ⟨(some 22), 24, .ext 1 (.t 18), none, []⟩, ⟨(some 5), 7, .mv (.t 21), none, []⟩, ⟨(some 6), 8, .mv (.t 22), none, []⟩])
  (.seq (.ops [⟨(some 23), 25, .mv (.t 6), none, []⟩, ⟨(some 24), 26, .mv (.t 23), none, []⟩, ⟨(some 25), 27, .faddr 0 1 (.t 1), (some (24, true)), []⟩, ⟨(some 26), 28, .load false 1 (.t 25), (some (24, true)), []⟩, ⟨(some 27), 29, .len false (.t 26), (some (24, true)), []⟩, ⟨(some 28), 30, .bin .leq (.t 27) (.c (.i .i64 2000)), (some (24, true)), []⟩, ⟨(some 29), 31, .pick (.t 24) (.t 28) (.c (.b false)), none, []⟩, ⟨(some 2), 4, .mv (.t 29), none, []⟩])
  .ret))))
theorem k89 : compCode Try.prog Try.f89.ntmps Try.f89.body.get! = some c89 := by kernel_rfl
theorem r89 : resTmps Try.prog Try.f89.results.toList = some [.tmp 2] := by kernel_rfl
/- spec.EntsOk -/
def c92 : TCode := (.seq (.ops [⟨(some 1), 3, .box 2 (.t 0), none, []⟩, ⟨(some 2), 4, .mv (.c (.b false)), none, []⟩])
  (.seq (.ops [⟨(some 8), 10, .faddr 0 1 (.t 1), none, []⟩, ⟨(some 9), 11, .load false 1 (.t 8), none, []⟩, ⟨(some 10), 12, .len false (.t 9), none, []⟩, ⟨(some 3), 5, .mv (.t 10), none, []⟩])
  (.seq (.seq (.ops [⟨(some 11), 13, .mv (.t 3), none, []⟩, ⟨(some 12), 14, .bin .gtr (.t 11) (.c (.i .i64 2000)), none, []⟩, ⟨(some 13), 15, .mv (.t 12), none, []⟩, ⟨(some 14), 16, .faddr 1 1 (.t 1), (some (13, false)), []⟩, ⟨(some 15), 17, .load false 1 (.t 14), (some (13, false)), []⟩, ⟨(some 16), 18, .len false (.t 15), (some (13, false)), []⟩, ⟨(some 17), 19, .mv (.t 3), (some (13, false)), []⟩, ⟨(some 18), 20, .bin .gtr (.t 16) (.t 17), (some (13, false)), []⟩, ⟨(some 19), 21, .pick (.t 13) (.c (.b true)) (.t 18), none, []⟩])
  (.cond (.t 19)
  (.seq (.ops [⟨(some 2), 4, .mv (.c (.b false)), none, []⟩])
  .ret)
  .skip))
  (.seq (.seq (.ops [⟨(some 4), 6, .mv (.c (.i .i64 0)), none, []⟩])
  (.block 0 (.loop (.seq (.seq (.ops [⟨(some 20), 22, .mv (.t 4), none, []⟩, ⟨(some 21), 23, .mv (.t 3), none, []⟩, ⟨(some 22), 24, .bin .lss (.t 20) (.t 21), none, []⟩])
  (.cond (.t 22)
  .skip
  (.exit 0)))
  (.seq (.block 1 (.seq (.ops [⟨(some 25), 27, .faddr 0 1 (.t 1), none, []⟩, ⟨(some 26), 28, .load false 1 (.t 25), none, []⟩, ⟨(some 27), 29, .mv (.t 4), none, []⟩, ⟨(some 28), 30, .iaddr 1 (.t 26) (.t 27), none, []⟩, ⟨(some 29), 31, .load false 1 (.t 28), none, []⟩, ⟨(some 30), 32, .call 71 [((.t 29), 0), ((.c (.i .i64 0)), 0), ((.c (.i .i64 1000000)), 0)], none, []⟩, ⟨(some 31), 33, .un .not (.t 30), none, []⟩])
  (.cond (.t 31)
  (.seq (.ops [⟨(some 2), 4, .mv (.c (.b false)), none, []⟩])
  .ret)
  .skip)))
  (.ops [⟨(some 23), 25, .mv (.t 4), none, []⟩, ⟨(some 24), 26, .bin .add (.t 23) (.c (.i .i64 1)), none, []⟩, ⟨(some 4), 6, .mv (.t 24), none, []⟩]))))))
  (.seq (.ops [⟨(some 32), 34, .mv (.t 3), none, []⟩, ⟨(some 33), 35, .mkslice 1 1 [(.b false)] (.t 32) (.t 32), none, []⟩, ⟨(some 5), 7, .mv (.t 33), none, []⟩])
  (.seq (.seq (.ops [⟨(some 6), 8, .mv (.c (.i .i64 0)), none, []⟩])
  (.block 2 (.loop (.seq (.seq (.ops [⟨(some 34), 36, .mv (.t 6), none, []⟩, ⟨(some 35), 37, .faddr 1 1 (.t 1), none, []⟩, ⟨(some 36), 38, .load false 1 (.t 35), none, []⟩, ⟨(some 37), 39, .len false (.t 36), none, []⟩, ⟨(some 38), 40, .bin .lss (.t 34) (.t 37), none, []⟩])
  (.cond (.t 38)
  .skip
  (.exit 2)))
  (.seq (.block 3 (.seq (.ops [⟨(some 41), 43, .faddr 1 1 (.t 1), none, []⟩, ⟨(some 42), 44, .load false 1 (.t 41), none, []⟩, ⟨(some 43), 45, .mv (.t 6), none, []⟩, ⟨(some 44), 46, .iaddr 1 (.t 42) (.t 43), none, []⟩, ⟨(some 45), 47, .load false 1 (.t 44), none, []⟩, ⟨(some 7), 9, .mv (.t 45), none, []⟩])
  (.seq (.seq (.ops [⟨(some 46), 48, .mv (.t 7), none, []⟩, ⟨(some 47), 49, .mv (.t 3), none, []⟩, ⟨(some 48), 50, .bin .sub (.t 47) (.c (.i .i64 1)), none, []⟩, ⟨(some 49), 51, .call 71 [((.t 46), 0), ((.c (.i .i64 0)), 0), ((.t 48), 0)], none, []⟩, ⟨(some 50), 52, .un .not (.t 49), none, []⟩, ⟨(some 51), 53, .mv (.t 50), none, []⟩, ⟨(some 52), 54, .mv (.t 5), (some (51, false)), []⟩, ⟨(some 53), 55, .mv (.t 7), (some (51, false)), []⟩, ⟨(some 54), 56, .iaddr 1 (.t 52) (.t 53), (some (51, false)), []⟩, ⟨(some 55), 57, .load false 1 (.t 54), (some (51, false)), []⟩, ⟨(some 56), 58, .pick (.t 51) (.c (.b true)) (.t 55), none, []⟩])
  (.cond (.t 56)
  (.seq (.ops [⟨(some 2), 4, .mv (.c (.b false)), none, []⟩])
  .ret)
  .skip))
  (.ops [⟨(some 57), 59, .mv (.t 5), none, []⟩, ⟨(some 58), 60, .mv (.t 7), none, []⟩, ⟨(some 59), 61, .iaddr 1 (.t 57) (.t 58), none, []⟩, ⟨none, 1016003, .store 1 (.t 59) (.c (.b true)), none, []⟩]))))
  (.ops [⟨(some 39), 41, .mv (.t 6), none, []⟩, ⟨(some 40), 42, .bin .add (.t 39) (.c (.i .i64 1)), none, []⟩, ⟨(some 6), 8, .mv (.t 40), none, []⟩]))))))
  (.seq (.ops [⟨(some 2), 4, .mv (.c (.b true)), none, []⟩])
  .ret)))))))
theorem k92 : compCode Try.prog Try.f92.ntmps Try.f92.body.get! = some c92 := by kernel_rfl
theorem r92 : resTmps Try.prog Try.f92.results.toList = some [.tmp 2] := by kernel_rfl

/-- An Ents that one reads. -/
def entsR (g f : List Int) : TV := .ag [.sl false 1 (g.map iT), .sl false 1 (f.map iT)]
def entsO (g f : List Int) : TV := .ag [.sl true 1 (g.map iT), .sl true 1 (f.map iT)]

def szEntsF (g f : List Int) (n : Int) : Int := if szF n g.length < 0 then -1 else szF (szF n g.length) f.length
def freeOk (n : Nat) (f : List Int) : Prop := (∀ x ∈ f, 0 ≤ x ∧ x < n) ∧ f.Nodup
instance (n : Nat) (f : List Int) : Decidable (freeOk n f) := by unfold freeOk; infer_instance
def freeL (n : Nat) (f : List Int) : List Bool := (List.range n).map fun (i : Nat) => decide ((i : Int) ∈ f)
@[simp] theorem freeL_len (n : Nat) (f : List Int) : (freeL n f).length = n := by simp [freeL]
theorem freeL_get {n : Nat} {f : List Int} {x : Int} (h0 : 0 ≤ x) (h1 : x < n) : (freeL n f)[x.toNat]? = some (decide (x ∈ f)) := by
  have h : x.toNat < n := by omega
  simp [freeL, h, Int.toNat_of_nonneg h0]
theorem freeL_set {n : Nat} {f : List Int} {x : Int} (h0 : 0 ≤ x) (h1 : x < n) : (freeL n f).set x.toNat true = freeL n (f ++ [x]) := by
  have h : x.toNat < n := by omega
  apply List.ext_getElem?
  intro i
  rw [List.getElem?_set]
  simp only [freeL, List.getElem?_map]
  by_cases hi : i < n
  · by_cases hx : x.toNat = i
    · subst hx; simp [h, Int.toNat_of_nonneg h0]
    · have : (i : Int) ≠ x := by omega
      simp [hx, hi, this]
  · have : ¬ x.toNat = i := by omega
    simp [hi, this]
@[simp] theorem freeL_nil (n : Nat) : freeL n [] = List.replicate n false := by
  apply List.ext_getElem?; intro i; simp [freeL, List.getElem?_replicate]; by_cases h : i < n <;> simp [h]
theorem freeOk_snoc {n : Nat} {f : List Int} {x : Int} : freeOk n (f ++ [x]) ↔ freeOk n f ∧ (0 ≤ x ∧ x < n) ∧ x ∉ f := by
  unfold freeOk
  simp only [List.mem_append, List.mem_singleton, List.nodup_append, List.nodup_cons]
  constructor
  · rintro ⟨h1, h2, _, h3⟩
    exact ⟨⟨fun y hy => h1 y (.inl hy), h2⟩, h1 x (.inr rfl), fun hx => h3 x hx x (by simp) rfl⟩
  · rintro ⟨⟨h1, h2⟩, h3, h4⟩
    refine ⟨fun y hy => ?_, h2, by simp, fun y hy z hz => ?_⟩
    · rcases hy with hy | rfl
      · exact h1 y hy
      · exact h3
    · subst hz; rintro rfl; exact h4 hy
theorem freeOk_take {n : Nat} {f : List Int} (h : freeOk n f) (j : Nat) : freeOk n (f.take j) :=
  ⟨fun x hx => h.1 x (List.mem_of_mem_take hx), h.2.sublist (List.take_sublist j f)⟩

theorem w98 (g f : List Int) (hg : g.length ≤ 2^40) (hf : f.length ≤ 2^40) : Contract Try.prog false 98 [.ro] [entsR g f] [.sl true 1 (if freeOk g.length f then (freeL g.length f).map bT else []), .b (decide (freeOk g.length f))] [] := by
  refine mk_contract [] Try.func98 (c := Try.f98.body.get!) (by kernel_rfl) k98 r98 (of_decide_eq_true rfl) fun _ => ?_
  unfold c98 entsR; simp
  refine ⟨by omega, ?_⟩
  refine twp_for f.length (fun j s => s.t 1 = .pt [(3, 0)] 0 0 ∧ s.t 4 = .rf [(12, 0)] 0 g.length ∧ s.t 12 = .sl false 1 (f.map iT) ∧ s.t 13 = .i .i64 f.length ∧ s.t 14 = .i .i64 j ∧ freeOk g.length (f.take j) ∧
    s.H = lk [(1, []), (3, [.po true [.sl false 1 (g.map iT), .sl false 1 (f.map iT)]]), (12, [.sl true 1 ((freeL g.length (f.take j)).map bT)])]) [] (by simp) ?_ ?_
  · simp [freeOk, bT]
  · rintro j s hj ⟨q1, q4, q12, q13, q14, hok, qH⟩
    rw [nf_of qH]
    simp [q1, q4, q12, q13, q14]
    refine ⟨fun hlt => ?_, fun hge => ?_⟩
    · obtain ⟨x, hx⟩ := get_some hlt
      have hw : IntKind.i64.wrap (j + 1) = j + 1 := wrap_id (by omega) (by omega)
      have hw2 : IntKind.i64.wrap (g.length - 1) = g.length - 1 := wrap_id (by omega) (by omega)
      have hsn := take_snoc hx
      simp [hx, hw, hw2, q1, q4, q12, q13, q14, iT]
      refine callW_ms [.ro, .ro, .ro] ?_
      simp
      by_cases hr : 0 ≤ x ∧ x ≤ (g.length : Int) - 1
      · refine callX_of ((w74 _ _ _).t hr) (by simp) ?_
        have hgt := freeL_get (n := g.length) (f := f.take j) (x := x) hr.1 (by omega)
        have hset : (List.map bT (freeL g.length (f.take j))).set x.toNat [.b true] = List.map bT (freeL g.length (f.take (j + 1))) := by
          rw [hsn, ← freeL_set hr.1 (by omega)]; simp
        have hno : x ∈ f.take j → ¬ freeOk g.length f := fun hx2 h => by
          have := freeOk_take h (j + 1); rw [hsn, freeOk_snoc] at this; exact this.2.2 hx2
        simp [q1, q4, q12, q13, q14, hr.1, hgt, hw, hset]
        refine ⟨by omega, fun hx2 => by simp [hno hx2], fun hx2 => ⟨by omega, hlt, ?_⟩⟩
        rw [hsn, freeOk_snoc]; exact ⟨hok, ⟨hr.1, by omega⟩, hx2⟩
      · refine callX_of ((w74 _ _ _).f hr) (by simp) ?_
        have hno : ¬ freeOk g.length f := fun h => by
          have := freeOk_take h (j + 1); rw [hsn, freeOk_snoc] at this; omega
        simp [hno]
    · obtain rfl : j = f.length := by omega
      simp at hok
      simp [q4, hok]

def EntsOkP (g f : List Int) : Prop := (∀ x ∈ g, 0 ≤ x ∧ x ≤ 1000000) ∧ freeOk g.length f ∧ g.length ≤ 2000
instance (g f : List Int) : Decidable (EntsOkP g f) := by unfold EntsOkP; infer_instance

theorem w89 (g f : List Int) (hg : g.length ≤ 2^40) (hf : f.length ≤ 2^40) : Contract Try.prog false 89 [.ro] [entsR g f] [.b (decide (EntsOkP g f))] [] := by
  refine mk_contract [] Try.func89 (c := Try.f89.body.get!) (by kernel_rfl) k89 r89 (of_decide_eq_true rfl) fun _ => ?_
  unfold c89 entsR; simp
  refine twp_for g.length (fun j s => s.t 1 = .pt [(3, 0)] 0 0 ∧ s.t 8 = .sl false 1 (g.map iT) ∧ s.t 9 = .i .i64 g.length ∧ s.t 10 = .i .i64 j ∧ (∀ x ∈ g.take j, 0 ≤ x ∧ x ≤ 1000000) ∧
    s.H = lk [(1, []), (3, [.po true [.sl false 1 (g.map iT), .sl false 1 (f.map iT)]])]) [] (by simp) ?_ ?_
  · simp
  · rintro j s hj ⟨q1, q8, q9, q10, hok, qH⟩
    rw [nf_of qH]
    simp [q1, q8, q9, q10]
    refine ⟨fun hlt => ?_, fun hge => ?_⟩
    · obtain ⟨x, hx⟩ := get_some hlt
      have hw : IntKind.i64.wrap (j + 1) = j + 1 := wrap_id (by omega) (by omega)
      simp [hx]
      refine callW_ms [.ro, .ro, .ro] ?_
      simp
      by_cases hr : 0 ≤ x ∧ x ≤ 1000000
      · refine callX_of ((w74 _ _ _).t hr) (by simp) ?_
        simp [q1, q8, q9, q10, hw, take_snoc hx]
        refine ⟨hlt, fun y hy => ?_⟩
        rcases hy with hy | rfl
        · exact hok y hy
        · exact hr
      · refine callX_of ((w74 _ _ _).f hr) (by simp) ?_
        simp
        intro h; exact absurd (h.1 x (List.mem_of_getElem? hx)) hr
    · obtain rfl : j = g.length := by omega
      simp at hok
      simp [q1]
      refine callW_ms [.ro] ?_
      simp
      refine callX_of (w98 g f hg hf) (by simp) ?_
      simp
      by_cases hok2 : freeOk g.length f
      · have hE : EntsOkP g f ↔ (g.length : Int) ≤ 2000 := ⟨fun h => by have := h.2.2; omega, fun h => ⟨hok, hok2, by omega⟩⟩
        simp [hok2, q1, hE]
      · simp [hok2, EntsOkP]

/-- What differs, out of a range, fits. -/
theorem len_le_of_nodup : ∀ (n : Nat) (f : List Int), (∀ x ∈ f, 0 ≤ x ∧ x < n) → f.Nodup → f.length ≤ n
  | 0, [], _, _ => by simp
  | 0, x :: f, h, _ => by have := h x (by simp); omega
  | n + 1, f, h, hn => by
    have h1 := len_le_of_nodup n (f.erase (n : Int)) (fun x hx => by
      have h2 := (hn.mem_erase_iff).1 hx
      have h3 := h x h2.2
      have : x ≠ n := h2.1
      omega) (hn.erase _)
    by_cases hm : (n : Int) ∈ f
    · rw [List.length_erase_of_mem hm] at h1; omega
    · rw [List.erase_of_not_mem hm] at h1; omega

theorem w92 (g f : List Int) (hg : g.length ≤ 2^40) (hf : f.length ≤ 2^40) : Contract Try.prog false 92 [.ro] [entsR g f] [.b (decide (EntsOkP g f))] [] := by
  refine mk_contract [] Try.func92 (c := Try.f92.body.get!) (by kernel_rfl) k92 r92 (of_decide_eq_true rfl) fun _ => ?_
  unfold c92 entsR; simp
  by_cases h : (2000 : Int) < g.length
  · have hE : ¬ EntsOkP g f := fun h2 => by have := h2.2.2; omega
    simp [h, hE]
  simp [h]
  refine ⟨fun h2 => ?_, fun h2 => ?_⟩
  · simp [EntsOkP]
    intro _ h3; have := len_le_of_nodup _ _ h3.1 h3.2; omega
  refine twp_for g.length (fun j s => s.t 1 = .pt [(3, 0)] 0 0 ∧ s.t 3 = .i .i64 g.length ∧ s.t 4 = .i .i64 j ∧ (∀ x ∈ g.take j, 0 ≤ x ∧ x ≤ 1000000) ∧
    s.H = lk [(1, []), (3, [.po true [.sl false 1 (g.map iT), .sl false 1 (f.map iT)]])]) [] (by simp) ?_ ?_
  · simp
  · rintro j s hj ⟨q1, q3, q4, hok, qH⟩
    rw [nf_of qH]
    simp [q1, q3, q4]
    refine ⟨fun hlt => ?_, fun hge => ?_⟩
    · obtain ⟨x, hx⟩ := get_some hlt
      have hw : IntKind.i64.wrap (j + 1) = j + 1 := wrap_id (by omega) (by omega)
      simp [hx]
      refine callW_ms [.ro, .ro, .ro] ?_
      simp
      by_cases hr : 0 ≤ x ∧ x ≤ 1000000
      · refine callX_of ((w71 _ _ _).t hr) (by simp) ?_
        simp [q1, q3, q4, hw, take_snoc hx]
        refine ⟨hlt, fun y hy => ?_⟩
        rcases hy with hy | rfl
        · exact hok y hy
        · exact hr
      · refine callX_of ((w71 _ _ _).f hr) (by simp) ?_
        simp
        intro h; exact absurd (h.1 x (List.mem_of_getElem? hx)) hr
    · obtain rfl : j = g.length := by omega
      simp at hok
      simp [q1, q3]
      refine ⟨by omega, ?_⟩
      refine twp_for f.length (fun j s => s.t 1 = .pt [(3, 0)] 0 0 ∧ s.t 3 = .i .i64 g.length ∧ s.t 5 = .rf [(35, 0)] 0 g.length ∧ s.t 6 = .i .i64 j ∧ freeOk g.length (f.take j) ∧
        s.H = lk [(1, []), (3, [.po true [.sl false 1 (g.map iT), .sl false 1 (f.map iT)]]), (35, [.sl true 1 ((freeL g.length (f.take j)).map bT)])]) [] (by simp) ?_ ?_
      · simp [q1, q3, freeOk]
      · rintro j s hj ⟨q1, q3, q5, q6, hok, qH⟩
        rw [nf_of qH]
        simp [q1, q3, q5, q6]
        refine ⟨fun hlt => ?_, fun hge => ?_⟩
        · obtain ⟨x, hx⟩ := get_some hlt
          have hw : IntKind.i64.wrap (j + 1) = j + 1 := wrap_id (by omega) (by omega)
          have hw2 : IntKind.i64.wrap (g.length - 1) = g.length - 1 := wrap_id (by omega) (by omega)
          have hsn := take_snoc hx
          simp [hx, hw2, q3]
          refine callW_ms [.ro, .ro, .ro] ?_
          simp
          by_cases hr : 0 ≤ x ∧ x ≤ (g.length : Int) - 1
          · refine callX_of ((w71 _ _ _).t hr) (by simp) ?_
            have hgt := freeL_get (n := g.length) (f := f.take j) (x := x) hr.1 (by omega)
            have hset : (List.map bT (freeL g.length (f.take j))).set x.toNat [.b true] = List.map bT (freeL g.length (f.take (j + 1))) := by
              rw [hsn, ← freeL_set hr.1 (by omega)]; simp
            have hno : x ∈ f.take j → ¬ freeOk g.length f := fun hx2 h => by
              have := freeOk_take h (j + 1); rw [hsn, freeOk_snoc] at this; exact this.2.2 hx2
            simp [q1, q3, q5, q6, hr.1, hgt, hw, hset]
            refine ⟨by omega, fun hx2 => by simp [hno hx2, EntsOkP], fun hx2 => ⟨by omega, hlt, ?_⟩⟩
            rw [hsn, freeOk_snoc]; exact ⟨hok, ⟨hr.1, by omega⟩, hx2⟩
          · refine callX_of ((w71 _ _ _).f hr) (by simp) ?_
            have hno : ¬ freeOk g.length f := fun h => by
              have := freeOk_take h (j + 1); rw [hsn, freeOk_snoc] at this; omega
            simp [hno, EntsOkP]
        · obtain rfl : j = f.length := by omega
          simp at hok
          exact ⟨by assumption, hok, by omega⟩
end Go.Proofs.YtloodkhdngipbaaT
