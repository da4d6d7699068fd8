/- A thing of an Ents: whether it is live. -/
import Derived.Test.YtmedelmfkciblaaKc
namespace Go.Proofs.YtmedelmfkciblaaT
set_option linter.unusedVariables false
set_option linter.unusedSimpArgs false
open Go

/- laws.toEnt -/
def c60 : TCode := (.seq (.ops [⟨(some 1), 3, .box 2 (.t 0), none, []⟩, ⟨(some 2), 4, .box 2 (.c (.ag [(.i .i64 0), (.i .i64 0)])), none, []⟩])
  (.seq (.ops [⟨(some 3), 5, .box 2 (.c (.ag [(.i .i64 0), (.i .i64 0)])), none, []⟩])
  (.seq (.ops [⟨(some 4), 6, .faddr 0 1 (.t 1), none, []⟩, ⟨(some 5), 7, .load false 1 (.t 4), none, []⟩, ⟨(some 6), 8, .faddr 0 1 (.t 3), none, []⟩, ⟨none, 1002003, .store 1 (.t 6) (.t 5), none, []⟩])
  (.seq (.ops [⟨(some 7), 9, .faddr 1 1 (.t 1), none, []⟩, ⟨(some 8), 10, .load false 1 (.t 7), none, []⟩, ⟨(some 9), 11, .faddr 1 1 (.t 3), none, []⟩, ⟨none, 1003003, .store 1 (.t 9) (.t 8), none, []⟩])
  (.seq (.ops [⟨(some 10), 12, .load true 2 (.t 3), none, []⟩, ⟨none, 1004001, .store 2 (.t 2) (.t 10), none, []⟩])
  .ret)))))
theorem k60 : compCode Try.prog Try.f60.ntmps Try.f60.body.get! = some c60 := by kernel_rfl
theorem r60 : resTmps Try.prog Try.f60.results.toList = some [.cell 2 true 2] := by kernel_rfl
/- laws.eqEnt -/
def c94 : TCode := (.seq (.ops [⟨(some 2), 4, .box 2 (.t 0), none, []⟩, ⟨(some 3), 5, .box 2 (.t 1), none, []⟩, ⟨(some 4), 6, .mv (.c (.b false)), none, []⟩])
  (.seq (.seq (.ops [⟨(some 5), 7, .faddr 0 1 (.t 2), none, []⟩, ⟨(some 6), 8, .load false 1 (.t 5), none, []⟩, ⟨(some 7), 9, .faddr 0 1 (.t 3), none, []⟩, ⟨(some 8), 10, .load false 1 (.t 7), none, []⟩, ⟨(some 9), 11, .bin .neq (.t 6) (.t 8), none, []⟩])
  (.cond (.t 9)
  (.seq (.ops [⟨(some 4), 6, .mv (.c (.b false)), none, []⟩])
  .ret)
  .skip))
  (.seq (.seq (.ops [⟨(some 10), 12, .faddr 1 1 (.t 2), none, []⟩, ⟨(some 11), 13, .load false 1 (.t 10), none, []⟩, ⟨(some 12), 14, .faddr 1 1 (.t 3), none, []⟩, ⟨(some 13), 15, .load false 1 (.t 12), none, []⟩, ⟨(some 14), 16, .bin .neq (.t 11) (.t 13), none, []⟩])
  (.cond (.t 14)
  (.seq (.ops [⟨(some 4), 6, .mv (.c (.b false)), none, []⟩])
  .ret)
  .skip))
  (.seq (.ops [⟨(some 4), 6, .mv (.c (.b true)), none, []⟩])
  .ret))))
theorem k94 : compCode Try.prog Try.f94.ntmps Try.f94.body.get! = some c94 := by kernel_rfl
theorem r94 : resTmps Try.prog Try.f94.results.toList = some [.tmp 4] := by kernel_rfl
/- slices.Index[[]int,int] -/
def c161 : TCode := (.seq (.ops [⟨(some 4), 6, .mv (.c (.i .i64 0)), none, []⟩])
  (.seq (.seq (.ops [⟨(some 6), 8, .mv (.t 0), none, []⟩, ⟨(some 7), 9, .len false (.t 6), none, []⟩, ⟨(some 8), 10, .mv (.c (.i .i64 0)), none, []⟩])
  (.block 0 (.loop (.seq (.ops [⟨(some 9), 11, .bin .lss (.t 8) (.t 7), none, []⟩])
  (.seq (.cond (.t 9)
  .skip
  (.exit 0))
  (.seq (.block 1 (.seq (.ops [⟨(some 10), 12, .mv (.t 8), none, []⟩, ⟨(some 5), 7, .mv (.t 10), none, []⟩])
  (.seq (.ops [⟨(some 11), 13, .mv (.t 1), none, []⟩, ⟨(some 12), 14, .mv (.t 0), none, []⟩, ⟨(some 13), 15, .mv (.t 5), none, []⟩, ⟨(some 14), 16, .iaddr 1 (.t 12) (.t 13), none, []⟩, ⟨(some 15), 17, .load false 1 (.t 14), none, []⟩, ⟨(some 16), 18, .bin .eql (.t 11) (.t 15), none, []⟩])
  (.cond (.t 16)
  (.seq (.ops [⟨(some 17), 19, .mv (.t 5), none, []⟩, ⟨(some 4), 6, .mv (.t 17), none, []⟩])
  .ret)
  .skip))))
  (.ops [⟨(some 18), 20, .bin .add (.t 8) (.c (.i .i64 1)), none, []⟩, ⟨(some 8), 10, .mv (.t 18), none, []⟩])))))))
  (.seq (.ops [⟨(some 4), 6, .mv (.c (.i .i64 (-1))), none, []⟩])
  .ret)))
theorem k161 : compCode Try.prog Try.f161.ntmps Try.f161.body.get! = some c161 := by kernel_rfl
theorem r161 : resTmps Try.prog Try.f161.results.toList = some [.tmp 4] := by kernel_rfl
/- slices.Contains[[]int,int] -/
def c106 : TCode := (.seq (.ops [⟨(some 4), 6, .mv (.c (.b false)), none, []⟩])
  (.seq (.ops [⟨(some 5), 7, .mv (.t 0), none, []⟩, ⟨(some 6), 8, .mv (.t 1), none, []⟩, ⟨(some 7), 9, .call 161 [((.t 5), 0), ((.t 6), 0)], none, []⟩, ⟨(some 8), 10, .bin .geq (.t 7) (.c (.i .i64 0)), none, []⟩, ⟨(some 4), 6, .mv (.t 8), none, []⟩])
  .ret))
theorem k106 : compCode Try.prog Try.f106.ntmps Try.f106.body.get! = some c106 := by kernel_rfl
theorem r106 : resTmps Try.prog Try.f106.results.toList = some [.tmp 4] := by kernel_rfl
/- spec.l2Live -/
def c215 : TCode := (.seq (.ops [⟨(some 2), 4, .box 2 (.t 0), none, []⟩, ⟨(some 3), 5, .box 2 (.t 1), none, []⟩, ⟨(some 4), 6, .mv (.c (.b false)), none, []⟩])
  (.seq (.seq (.draw [⟨(some 6), 8, .faddr 0 1 (.t 3), none, []⟩, ⟨(some 7), 9, .load false 1 (.t 6), none, []⟩, ⟨(some 8), 10, .faddr 0 1 (.t 2), none, []⟩, ⟨(some 9), 11, .load false 1 (.t 8), none, []⟩, ⟨(some 10), 12, .len false (.t 9), none, []⟩, ⟨(some 11), 13, .bin .sub (.t 10) (.c (.i .i64 1)), none, []⟩, ⟨(some 12), 14, .call 87 [((.t 7), 0), ((.c (.i .i64 0)), 0), ((.t 11), 0)], none, []⟩, ⟨(some 13), 15, .un .not (.t 12), none, []⟩, ⟨(some 14), 16, .mv (.t 13), none, []⟩, ⟨(some 15), 17, .faddr 0 1 (.t 2), (some (14, false)), []⟩, ⟨(some 16), 18, .load false 1 (.t 15), (some (14, false)), []⟩, ⟨(some 17), 19, .faddr 0 1 (.t 3), (some (14, false)), []⟩, ⟨(some 18), 20, .load false 1 (.t 17), (some (14, false)), []⟩, ⟨(some 19), 21, .iaddr 1 (.t 16) (.t 18), (some (14, false)), []⟩, ⟨(some 20), 22, .load false 1 (.t 19), (some (14, false)), []⟩, ⟨(some 21), 23, .faddr 1 1 (.t 3), (some (14, false)), []⟩, ⟨(some 22), 24, .load false 1 (.t 21), (some (14, false)), []⟩, ⟨(some 23), 25, .bin .neq (.t 20) (.t 22), (some (14, false)), []⟩, ⟨(some 24), 26, .pick (.t 14) (.c (.b true)) (.t 23), none, []⟩])
  (.cond (.t 24)
  (.seq (.ops [⟨(some 4), 6, .mv (.c (.b false)), none, []⟩])
  .ret)
  .skip))
  (.seq (.seq (.ops [⟨(some 5), 7, .mv (.c (.i .i64 0)), none, []⟩])
  (.block 0 (.loop (.seq (.seq (.ops [⟨(some 25), 27, .mv (.t 5), none, []⟩, ⟨(some 26), 28, .faddr 1 1 (.t 2), none, []⟩, ⟨(some 27), 29, .load false 1 (.t 26), none, []⟩, ⟨(some 28), 30, .len false (.t 27), none, []⟩, ⟨(some 29), 31, .bin .lss (.t 25) (.t 28), none, []⟩])
  (.cond (.t 29)
  .skip
  (.exit 0)))
  (.seq (.block 1 (.seq (.draw [⟨(some 32), 34, .faddr 1 1 (.t 2), none, []⟩, ⟨(some 33), 35, .load false 1 (.t 32), none, []⟩, ⟨(some 34), 36, .mv (.t 5), none, []⟩, ⟨(some 35), 37, .iaddr 1 (.t 33) (.t 34), none, []⟩, ⟨(some 36), 38, .load false 1 (.t 35), none, []⟩, ⟨(some 37), 39, .faddr 0 1 (.t 3), none, []⟩, ⟨(some 38), 40, .load false 1 (.t 37), none, []⟩, ⟨(some 39), 41, .bin .eql (.t 36) (.t 38), none, []⟩])
  (.cond (.t 39)
  (.seq (.ops [⟨(some 4), 6, .mv (.c (.b false)), none, []⟩])
  .ret)
  .skip)))
  (.ops [⟨(some 30), 32, .mv (.t 5), none, []⟩, ⟨(some 31), 33, .bin .add (.t 30) (.c (.i .i64 1)), none, []⟩, ⟨(some 5), 7, .mv (.t 31), none, []⟩]))))))
  (.seq (.ops [⟨(some 4), 6, .mv (.c (.b true)), none, []⟩])
  .ret))))
theorem k215 : compCode Try.prog Try.f215.ntmps Try.f215.body.get! = some c215 := by kernel_rfl
theorem r215 : resTmps Try.prog Try.f215.results.toList = some [.tmp 4] := by kernel_rfl

def entT (x y : Int) : TV := .ag [.i .i64 x, .i .i64 y]
theorem w60 (x y : Int) : Contract Try.prog false 60 [.ro] [entT x y] [entT x y] [] := by
  refine mk_contract [] Try.func60 (c := Try.f60.body.get!) (by kernel_rfl) k60 r60 (of_decide_eq_true rfl) fun _ => ?_
  unfold c60 entT; simp
theorem w94 (x y x' y' : Int) : Contract Try.prog false 94 [.ro, .ro] [entT x y, entT x' y'] [.b (decide (x = x' ∧ y = y'))] [] := by
  refine mk_contract [] Try.func94 (c := Try.f94.body.get!) (by kernel_rfl) k94 r94 (of_decide_eq_true rfl) fun _ => ?_
  unfold c94 entT; simp
  refine ⟨fun h => ⟨fun h2 => ⟨h, h2⟩, fun h2 _ => h2⟩, fun h h2 => absurd h2 h⟩

/-- The place of the first x, or -1. -/
def idxF (l : List Int) (x : Int) : Int := if x ∈ l then (l.idxOf x : Int) else -1
theorem idxF_at {l : List Int} {x : Int} {j : Nat} (h : l[j]? = some x) (hn : x ∉ l.take j) : idxF l x = j := by
  have hm := List.mem_of_getElem? h
  have hj := (List.getElem?_eq_some_iff.1 h).1
  have hl : l = l.take j ++ x :: l.drop (j + 1) := by
    have := (List.getElem?_eq_some_iff.1 h).2
    rw [← this, ← List.drop_eq_getElem_cons hj, List.take_append_drop]
  unfold idxF
  rw [if_pos hm]
  have : l.idxOf x = j := by
    rw [hl, List.idxOf_append, if_neg hn]
    simp [Nat.min_eq_left (Nat.le_of_lt hj)]
  rw [this]
theorem idxF_ge (l : List Int) (x : Int) : 0 ≤ idxF l x ↔ x ∈ l := by
  unfold idxF; split
  · rename_i h; exact ⟨fun _ => h, fun _ => by omega⟩
  · rename_i h; exact ⟨fun h2 => by omega, fun h2 => absurd h2 h⟩
theorem w161 (l : List Int) (x : Int) (hl : l.length ≤ 2^40) : Contract Try.prog false 161 [.ro, .ro] [.sl false 1 (l.map iT), .i .i64 x] [.i .i64 (idxF l x)] [] := by
  refine mk_contract [] Try.func161 (c := Try.f161.body.get!) (by kernel_rfl) k161 r161 (of_decide_eq_true rfl) fun _ => ?_
  unfold c161; simp
  refine twp_for l.length (fun j s => s.t 0 = .sl false 1 (l.map iT) ∧ s.t 1 = .i .i64 x ∧ s.t 7 = .i .i64 l.length ∧ s.t 8 = .i .i64 j ∧ x ∉ l.take j ∧ s.H = lk [(1, [])]) [] (by simp) ?_ ?_
  · simp
  · rintro j s hj ⟨q0, q1, q7, q8, hn, qH⟩
    rw [nf_of qH]
    simp [q0, q1, q7, q8]
    refine ⟨fun hlt => ?_, fun hge => ?_⟩
    · have hw : IntKind.i64.wrap (j + 1) = j + 1 := wrap_id (by omega) (by omega)
      obtain ⟨y, hy⟩ := get_some hlt
      simp [hy, hw, q0, q1, q7, q8]
      refine ⟨fun hxy => ?_, fun hxy => ⟨hlt, ?_⟩⟩
      · subst hxy; exact (idxF_at hy hn).symm
      · rw [take_snoc hy]; simp; exact ⟨hn, hxy⟩
    · obtain rfl : j = l.length := by omega
      rw [List.take_of_length_le (Nat.le_refl _)] at hn
      simp [idxF, hn]
theorem w106 (l : List Int) (x : Int) (hl : l.length ≤ 2^40) : Contract Try.prog false 106 [.ro, .ro] [.sl false 1 (l.map iT), .i .i64 x] [.b (decide (x ∈ l))] [] := by
  refine mk_contract [] Try.func106 (c := Try.f106.body.get!) (by kernel_rfl) k106 r106 (of_decide_eq_true rfl) fun _ => ?_
  unfold c106; simp
  refine callW_ms [.ro, .ro] ?_
  simp
  refine callX_of (w161 l x hl) (by simp) ?_
  simp [idxF_ge]

/-- Live: a place of its own, of the gen that stands there, not free. -/
def liveP (g f : List Int) (x y : Int) : Prop := (0 ≤ x ∧ x ≤ (g.length : Int) - 1) ∧ g[x.toNat]? = some y ∧ x ∉ f
instance (g f : List Int) (x y : Int) : Decidable (liveP g f x y) := by unfold liveP; infer_instance
theorem w215 (g f : List Int) (x y : Int) (hg : g.length ≤ 2^40) (hf : f.length ≤ 2^40) : Contract Try.prog false 215 [.ro, .ro] [entsR g f, entT x y] [.b (decide (liveP g f x y))] [] := by
  refine mk_contract [] Try.func215 (c := Try.f215.body.get!) (by kernel_rfl) k215 r215 (of_decide_eq_true rfl) fun _ => ?_
  have hw2 : IntKind.i64.wrap (g.length - 1) = g.length - 1 := wrap_id (by omega) (by omega)
  unfold c215 entT entsR; simp [hw2]
  refine callW_ms [.ro, .ro, .ro] ?_
  simp
  by_cases hr : 0 ≤ x ∧ x ≤ (g.length : Int) - 1
  · refine callX_of ((w87 _ _ _).t hr) (by simp) ?_
    obtain ⟨z, hz⟩ := get_some (l := g) (j := x.toNat) (by omega)
    by_cases hzy : z = y
    · subst hzy
      simp [hr.1, hz]
      refine twp_for f.length (fun j s => s.t 2 = .pt [(4, 0)] 0 0 ∧ s.t 3 = .pt [(5, 0)] 0 0 ∧ s.t 5 = .i .i64 j ∧ x ∉ f.take j ∧
        s.H = lk [(1, []), (4, [.po true [.sl false 1 (g.map iT), .sl false 1 (f.map iT)]]), (5, [.po true [.i .i64 x, .i .i64 z]])]) [] (by simp) ?_ ?_
      · simp
      · rintro j s hj ⟨q2, q3, q5, hn, qH⟩
        rw [nf_of qH]
        simp [q2, q3, q5]
        refine ⟨fun hlt => ?_, fun hge => ?_⟩
        · have hw : IntKind.i64.wrap (j + 1) = j + 1 := wrap_id (by omega) (by omega)
          obtain ⟨u, hu⟩ := get_some hlt
          simp [hu, hw, q2, q3, q5]
          refine ⟨fun hux => ?_, fun hux => ⟨hlt, ?_⟩⟩
          · subst hux
            intro h; exact h.2.2 (List.mem_of_getElem? hu)
          · rw [take_snoc hu]; simp; exact ⟨hn, fun h => hux h.symm⟩
        · obtain rfl : j = f.length := by omega
          rw [List.take_of_length_le (Nat.le_refl _)] at hn
          exact ⟨hr, hz, hn⟩
    · have : ¬ liveP g f x y := fun h => by have := h.2.1; rw [hz] at this; cases this; exact hzy rfl
      simp [hr.1, hz, hzy, this]
  · refine callX_of ((w87 _ _ _).f hr) (by simp) ?_
    have : ¬ liveP g f x y := fun h => hr h.1
    simp [this]

end Go.Proofs.YtmedelmfkciblaaT
