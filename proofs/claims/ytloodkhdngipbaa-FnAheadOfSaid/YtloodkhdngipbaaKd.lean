/- A thing of an Ents: whether it is live. -/
import Derived.Test.YtloodkhdngipbaaKc
namespace Go.Proofs.YtloodkhdngipbaaT
set_option linter.unusedVariables false
set_option linter.unusedSimpArgs false
open Go

/- slices.Index[[]int,int] -/
def c159 : TCode := (.seq (.ops [⟨(some 4), 6, .mv (.c (.i .i64 0)), none, []⟩])
  (.seq (.seq (.ops [⟨(some 6), 8, .mv (.t 0), none, []⟩, ⟨(some 7), 9, .len false (.t 6), none, []⟩, ⟨(some 8), 10, .mv (.c (.i .i64 0)), none, []⟩])
  (.block 0 (.loop (.seq (.ops [⟨(some 9), 11, .bin .lss (.t 8) (.t 7), none, []⟩])
  (.seq (.cond (.t 9)
  .skip
  (.exit 0))
  (.seq (.block 1 (.seq (.ops [⟨(some 10), 12, .mv (.t 8), none, []⟩, ⟨(some 5), 7, .mv (.t 10), none, []⟩])
  (.seq (.ops [⟨(some 11), 13, .mv (.t 1), none, []⟩, ⟨(some 12), 14, .mv (.t 0), none, []⟩, ⟨(some 13), 15, .mv (.t 5), none, []⟩, ⟨(some 14), 16, .iaddr 1 (.t 12) (.t 13), none, []⟩, ⟨(some 15), 17, .load false 1 (.t 14), none, []⟩, ⟨(some 16), 18, .bin .eql (.t 11) (.t 15), none, []⟩])
  (.cond (.t 16)
  (.seq (.ops [⟨(some 17), 19, .mv (.t 5), none, []⟩, ⟨(some 4), 6, .mv (.t 17), none, []⟩])
  .ret)
  .skip))))
  (.ops [⟨(some 18), 20, .bin .add (.t 8) (.c (.i .i64 1)), none, []⟩, ⟨(some 8), 10, .mv (.t 18), none, []⟩])))))))
  (.seq (.ops [⟨(some 4), 6, .mv (.c (.i .i64 (-1))), none, []⟩])
  .ret)))
theorem k159 : compCode Try.prog Try.f159.ntmps Try.f159.body.get! = some c159 := by kernel_rfl
theorem r159 : resTmps Try.prog Try.f159.results.toList = some [.tmp 4] := by kernel_rfl
/- slices.Contains[[]int,int] -/
def c138 : TCode := (.seq (.ops [⟨(some 4), 6, .mv (.c (.b false)), none, []⟩])
  (.seq (.ops [⟨(some 5), 7, .mv (.t 0), none, []⟩, ⟨(some 6), 8, .mv (.t 1), none, []⟩, ⟨(some 7), 9, .call 159 [((.t 5), 0), ((.t 6), 0)], none, []⟩, ⟨(some 8), 10, .bin .geq (.t 7) (.c (.i .i64 0)), none, []⟩, ⟨(some 4), 6, .mv (.t 8), none, []⟩])
  .ret))
theorem k138 : compCode Try.prog Try.f138.ntmps Try.f138.body.get! = some c138 := by kernel_rfl
theorem r138 : resTmps Try.prog Try.f138.results.toList = some [.tmp 4] := by kernel_rfl
/- spec.l2Live -/
def c97 : TCode := (.seq (.ops [⟨(some 2), 4, .box 2 (.t 0), none, []⟩, ⟨(some 3), 5, .box 2 (.t 1), none, []⟩, ⟨(some 4), 6, .mv (.c (.b false)), none, []⟩])
  (.seq (.seq (.draw [⟨(some 6), 8, .faddr 0 1 (.t 3), none, []⟩, ⟨(some 7), 9, .load false 1 (.t 6), none, []⟩, ⟨(some 8), 10, .faddr 0 1 (.t 2), none, []⟩, ⟨(some 9), 11, .load false 1 (.t 8), none, []⟩, ⟨(some 10), 12, .len false (.t 9), none, []⟩, ⟨(some 11), 13, .bin .sub (.t 10) (.c (.i .i64 1)), none, []⟩, ⟨(some 12), 14, .call 71 [((.t 7), 0), ((.c (.i .i64 0)), 0), ((.t 11), 0)], none, []⟩, ⟨(some 13), 15, .un .not (.t 12), none, []⟩, ⟨(some 14), 16, .mv (.t 13), none, []⟩, ⟨(some 15), 17, .faddr 0 1 (.t 2), (some (14, false)), []⟩, ⟨(some 16), 18, .load false 1 (.t 15), (some (14, false)), []⟩, ⟨(some 17), 19, .faddr 0 1 (.t 3), (some (14, false)), []⟩, ⟨(some 18), 20, .load false 1 (.t 17), (some (14, false)), []⟩, ⟨(some 19), 21, .iaddr 1 (.t 16) (.t 18), (some (14, false)), []⟩, ⟨(some 20), 22, .load false 1 (.t 19), (some (14, false)), []⟩, ⟨(some 21), 23, .faddr 1 1 (.t 3), (some (14, false)), []⟩, ⟨(some 22), 24, .load false 1 (.t 21), (some (14, false)), []⟩, ⟨(some 23), 25, .bin .neq (.t 20) (.t 22), (some (14, false)), []⟩, ⟨(some 24), 26, .pick (.t 14) (.c (.b true)) (.t 23), none, []⟩])
  (.cond (.t 24)
  (.seq (.ops [⟨(some 4), 6, .mv (.c (.b false)), none, []⟩])
  .ret)
  .skip))
  (.seq (.seq (.ops [⟨(some 5), 7, .mv (.c (.i .i64 0)), none, []⟩])
  (.block 0 (.loop (.seq (.seq (.ops [⟨(some 25), 27, .mv (.t 5), none, []⟩, ⟨(some 26), 28, .faddr 1 1 (.t 2), none, []⟩, ⟨(some 27), 29, .load false 1 (.t 26), none, []⟩, ⟨(some 28), 30, .len false (.t 27), none, []⟩, ⟨(some 29), 31, .bin .lss (.t 25) (.t 28), none, []⟩])
  (.cond (.t 29)
  .skip
  (.exit 0)))
  (.seq (.block 1 (.seq (.draw [⟨(some 32), 34, .faddr 1 1 (.t 2), none, []⟩, ⟨(some 33), 35, .load false 1 (.t 32), none, []⟩, ⟨(some 34), 36, .mv (.t 5), none, []⟩, ⟨(some 35), 37, .iaddr 1 (.t 33) (.t 34), none, []⟩, ⟨(some 36), 38, .load false 1 (.t 35), none, []⟩, ⟨(some 37), 39, .faddr 0 1 (.t 3), none, []⟩, ⟨(some 38), 40, .load false 1 (.t 37), none, []⟩, ⟨(some 39), 41, .bin .eql (.t 36) (.t 38), none, []⟩])
  (.cond (.t 39)
  (.seq (.ops [⟨(some 4), 6, .mv (.c (.b false)), none, []⟩])
  .ret)
  .skip)))
  (.ops [⟨(some 30), 32, .mv (.t 5), none, []⟩, ⟨(some 31), 33, .bin .add (.t 30) (.c (.i .i64 1)), none, []⟩, ⟨(some 5), 7, .mv (.t 31), none, []⟩]))))))
  (.seq (.ops [⟨(some 4), 6, .mv (.c (.b true)), none, []⟩])
  .ret))))
theorem k97 : compCode Try.prog Try.f97.ntmps Try.f97.body.get! = some c97 := by kernel_rfl
theorem r97 : resTmps Try.prog Try.f97.results.toList = some [.tmp 4] := by kernel_rfl
/- (*impl.Ents).isLive -/
def c95 : TCode := (.seq (.ops [⟨(some 3), 5, .box 2 (.t 1), none, []⟩, ⟨(some 4), 6, .mv (.c (.b false)), none, []⟩])
  (.seq (.draw [⟨(some 5), 7, .faddr 0 1 (.t 3), none, []⟩, ⟨(some 6), 8, .load false 1 (.t 5), none, []⟩, ⟨(some 7), 9, .mv (.t 0), none, []⟩, ⟨(some 8), 10, .nilck (.t 7), none, []⟩, ⟨(some 9), 11, .faddr 0 1 (.t 8), none, []⟩, ⟨(some 10), 12, .load false 1 (.t 9), none, []⟩, ⟨(some 11), 13, .len false (.t 10), none, []⟩, ⟨(some 12), 14, .bin .sub (.t 11) (.c (.i .i64 1)), none, []⟩, ⟨(some 13), 15, .call 74 [((.t 6), 0), ((.c (.i .i64 0)), 0), ((.t 12), 0)], none, []⟩, ⟨(some 14), 16, .mv (.t 13), none, []⟩, ⟨(some 15), 17, .mv (.t 0), (some (14, true)), []⟩, ⟨(some 16), 18, .nilck (.t 15), (some (14, true)), []⟩, ⟨(some 17), 19, .faddr 0 1 (.t 16), (some (14, true)), []⟩, ⟨(some 18), 20, .load false 1 (.t 17), (some (14, true)), []⟩, ⟨(some 19), 21, .faddr 0 1 (.t 3), (some (14, true)), []⟩, ⟨(some 20), 22, .load false 1 (.t 19), (some (14, true)), []⟩, ⟨(some 21), 23, .iaddr 1 (.t 18) (.t 20), (some (14, true)), []⟩, ⟨(some 22), 24, .load false 1 (.t 21), (some (14, true)), []⟩, ⟨(some 23), 25, .faddr 1 1 (.t 3), (some (14, true)), []⟩, ⟨(some 24), 26, .load false 1 (.t 23), (some (14, true)), []⟩, ⟨(some 25), 27, .bin .eql (.t 22) (.t 24), (some (14, true)), []⟩, ⟨(some 26), 28, .pick (.t 14) (.t 25) (.c (.b false)), none, []⟩, ⟨(some 27), 29, .mv (.t 26), none, []⟩, ⟨(some 28), 30, .mv (.t 0), (some (27, true)), []⟩, ⟨(some 29), 31, .nilck (.t 28), (some (27, true)), []⟩, ⟨(some 30), 32, .faddr 1 1 (.t 29), (some (27, true)), []⟩, ⟨(some 31), 33, .load false 1 (.t 30), (some (27, true)), []⟩, ⟨(some 32), 34, .faddr 0 1 (.t 3), (some (27, true)), []⟩, ⟨(some 33), 35, .load false 1 (.t 32), (some (27, true)), []⟩, ⟨(some 34), 36, .call 138 [((.t 31), 0), ((.t 33), 0)], (some (27, true)), []⟩, ⟨(some 35), 37, .un .not (.t 34), (some (27, true)), []⟩, ⟨(some 36), 38, .pick (.t 27) (.t 35) (.c (.b false)), none, []⟩, ⟨(some 4), 6, .mv (.t 36), none, []⟩])
  .ret))
theorem k95 : compCode Try.prog Try.f95.ntmps Try.f95.body.get! = some c95 := by kernel_rfl
theorem r95 : resTmps Try.prog Try.f95.results.toList = some [.tmp 4] := by kernel_rfl
/- spec.EntLive -/
def c44 : TCode := (.seq (.ops [⟨(some 2), 4, .box 2 (.t 0), none, []⟩, ⟨(some 3), 5, .box 2 (.t 1), none, []⟩, ⟨(some 4), 6, .mv (.c (.b false)), none, []⟩])
  (.seq (.ops [⟨(some 5), 7, .load true 2 (.t 2), none, []⟩, ⟨(some 6), 8, .call 92 [((.t 5), 0)], none, []⟩, ⟨(some 7), 9, .mv (.t 6), none, []⟩, ⟨(some 8), 10, .load true 2 (.t 2), (some (7, true)), []⟩, ⟨(some 9), 11, .load true 2 (.t 3), (some (7, true)), []⟩, ⟨(some 10), 12, .call 97 [((.t 8), 0), ((.t 9), 0)], (some (7, true)), []⟩, ⟨(some 11), 13, .pick (.t 7) (.t 10) (.c (.b false)), none, []⟩, ⟨(some 4), 6, .mv (.t 11), none, []⟩])
  .ret))
theorem k44 : compCode Try.prog Try.f44.ntmps Try.f44.body.get! = some c44 := by kernel_rfl
theorem r44 : resTmps Try.prog Try.f44.results.toList = some [.tmp 4] := by kernel_rfl
/- impl.EntLive -/
def c45 : TCode := (.seq (.ops [⟨(some 2), 4, .box 2 (.t 0), none, []⟩, ⟨(some 3), 5, .box 2 (.t 1), none, []⟩, ⟨(some 4), 6, .mv (.c (.b false)), none, []⟩])
  (.seq (.ops [⟨(some 5), 7, .load true 2 (.t 2), none, []⟩, ⟨(some 6), 8, .call 89 [((.t 5), 0)], none, []⟩, ⟨(some 7), 9, .mv (.t 6), none, []⟩, ⟨(some 8), 10, .load true 2 (.t 3), (some (7, true)), []⟩, ⟨(some 9), 11, .call 95 [((.t 2), 0), ((.t 8), 0)], (some (7, true)), []⟩, ⟨(some 10), 12, .pick (.t 7) (.t 9) (.c (.b false)), none, []⟩, ⟨(some 4), 6, .mv (.t 10), none, []⟩])
  .ret))
theorem k45 : compCode Try.prog Try.f45.ntmps Try.f45.body.get! = some c45 := by kernel_rfl
theorem r45 : resTmps Try.prog Try.f45.results.toList = some [.tmp 4] := by kernel_rfl

def entT (x y : Int) : TV := .ag [.i .i64 x, .i .i64 y]
/-- The place of the first x, or -1. -/
def idxF (l : List Int) (x : Int) : Int := if x ∈ l then (l.idxOf x : Int) else -1
theorem idxF_at {l : List Int} {x : Int} {j : Nat} (h : l[j]? = some x) (hn : x ∉ l.take j) : idxF l x = j := by
  have hm := List.mem_of_getElem? h
  have hj := (List.getElem?_eq_some_iff.1 h).1
  have hl : l = l.take j ++ x :: l.drop (j + 1) := by
    have := (List.getElem?_eq_some_iff.1 h).2
    rw [← this, ← List.drop_eq_getElem_cons hj, List.take_append_drop]
  unfold idxF
  rw [if_pos hm]
  have : l.idxOf x = j := by
    rw [hl, List.idxOf_append, if_neg hn]
    simp [Nat.min_eq_left (Nat.le_of_lt hj)]
  rw [this]
theorem idxF_ge (l : List Int) (x : Int) : 0 ≤ idxF l x ↔ x ∈ l := by
  unfold idxF; split
  · rename_i h; exact ⟨fun _ => h, fun _ => by omega⟩
  · rename_i h; exact ⟨fun h2 => by omega, fun h2 => absurd h2 h⟩
theorem w159 (l : List Int) (x : Int) (hl : l.length ≤ 2^40) : Contract Try.prog false 159 [.ro, .ro] [.sl false 1 (l.map iT), .i .i64 x] [.i .i64 (idxF l x)] [] := by
  refine mk_contract [] Try.func159 (c := Try.f159.body.get!) (by kernel_rfl) k159 r159 (of_decide_eq_true rfl) fun _ => ?_
  unfold c159; simp
  refine twp_for l.length (fun j s => s.t 0 = .sl false 1 (l.map iT) ∧ s.t 1 = .i .i64 x ∧ s.t 7 = .i .i64 l.length ∧ s.t 8 = .i .i64 j ∧ x ∉ l.take j ∧ s.H = lk [(1, [])]) [] (by simp) ?_ ?_
  · simp
  · rintro j s hj ⟨q0, q1, q7, q8, hn, qH⟩
    rw [nf_of qH]
    simp [q0, q1, q7, q8]
    refine ⟨fun hlt => ?_, fun hge => ?_⟩
    · have hw : IntKind.i64.wrap (j + 1) = j + 1 := wrap_id (by omega) (by omega)
      obtain ⟨y, hy⟩ := get_some hlt
      simp [hy, hw, q0, q1, q7, q8]
      refine ⟨fun hxy => ?_, fun hxy => ⟨hlt, ?_⟩⟩
      · subst hxy; exact (idxF_at hy hn).symm
      · rw [take_snoc hy]; simp; exact ⟨hn, hxy⟩
    · obtain rfl : j = l.length := by omega
      rw [List.take_of_length_le (Nat.le_refl _)] at hn
      simp [idxF, hn]
theorem w138 (l : List Int) (x : Int) (hl : l.length ≤ 2^40) : Contract Try.prog false 138 [.ro, .ro] [.sl false 1 (l.map iT), .i .i64 x] [.b (decide (x ∈ l))] [] := by
  refine mk_contract [] Try.func138 (c := Try.f138.body.get!) (by kernel_rfl) k138 r138 (of_decide_eq_true rfl) fun _ => ?_
  unfold c138; simp
  refine callW_ms [.ro, .ro] ?_
  simp
  refine callX_of (w159 l x hl) (by simp) ?_
  simp [idxF_ge]

/-- Live: a place of its own, of the gen that stands there, not free. -/
def liveP (g f : List Int) (x y : Int) : Prop := (0 ≤ x ∧ x ≤ (g.length : Int) - 1) ∧ g[x.toNat]? = some y ∧ x ∉ f
instance (g f : List Int) (x y : Int) : Decidable (liveP g f x y) := by unfold liveP; infer_instance
theorem w95 (g f : List Int) (x y : Int) (hg : g.length ≤ 2^40) (hf : f.length ≤ 2^40) : Contract Try.prog false 95 [.ro, .ro] [.po false [.sl false 1 (g.map iT), .sl false 1 (f.map iT)], entT x y] [.b (decide (liveP g f x y))] [] := by
  refine mk_contract [] Try.func95 (c := Try.f95.body.get!) (by kernel_rfl) k95 r95 (of_decide_eq_true rfl) fun _ => ?_
  have hw2 : IntKind.i64.wrap (g.length - 1) = g.length - 1 := wrap_id (by omega) (by omega)
  unfold c95 entT; simp [hw2]
  refine callW_ms [.ro, .ro, .ro] ?_
  simp
  by_cases hr : 0 ≤ x ∧ x ≤ (g.length : Int) - 1
  · refine callX_of ((w74 _ _ _).t hr) (by simp) ?_
    obtain ⟨z, hz⟩ := get_some (l := g) (j := x.toNat) (by omega)
    simp [hr.1, hz]
    by_cases hzy : z = y
    · subst hzy
      simp
      refine callW_ms [.ro, .ro] ?_
      simp
      refine callX_of (w138 f x hf) (by simp) ?_
      simp [liveP, hr, hz]
    · have : ¬ liveP g f x y := fun h => by have := h.2.1; rw [hz] at this; cases this; exact hzy rfl
      simp [hzy, this]
  · refine callX_of ((w74 _ _ _).f hr) (by simp) ?_
    have : ¬ liveP g f x y := fun h => hr h.1
    simp [this]
theorem w97 (g f : List Int) (x y : Int) (hg : g.length ≤ 2^40) (hf : f.length ≤ 2^40) : Contract Try.prog false 97 [.ro, .ro] [entsR g f, entT x y] [.b (decide (liveP g f x y))] [] := by
  refine mk_contract [] Try.func97 (c := Try.f97.body.get!) (by kernel_rfl) k97 r97 (of_decide_eq_true rfl) fun _ => ?_
  have hw2 : IntKind.i64.wrap (g.length - 1) = g.length - 1 := wrap_id (by omega) (by omega)
  unfold c97 entT entsR; simp [hw2]
  refine callW_ms [.ro, .ro, .ro] ?_
  simp
  by_cases hr : 0 ≤ x ∧ x ≤ (g.length : Int) - 1
  · refine callX_of ((w71 _ _ _).t hr) (by simp) ?_
    obtain ⟨z, hz⟩ := get_some (l := g) (j := x.toNat) (by omega)
    by_cases hzy : z = y
    · subst hzy
      simp [hr.1, hz]
      refine twp_for f.length (fun j s => s.t 2 = .pt [(4, 0)] 0 0 ∧ s.t 3 = .pt [(5, 0)] 0 0 ∧ s.t 5 = .i .i64 j ∧ x ∉ f.take j ∧
        s.H = lk [(1, []), (4, [.po true [.sl false 1 (g.map iT), .sl false 1 (f.map iT)]]), (5, [.po true [.i .i64 x, .i .i64 z]])]) [] (by simp) ?_ ?_
      · simp
      · rintro j s hj ⟨q2, q3, q5, hn, qH⟩
        rw [nf_of qH]
        simp [q2, q3, q5]
        refine ⟨fun hlt => ?_, fun hge => ?_⟩
        · have hw : IntKind.i64.wrap (j + 1) = j + 1 := wrap_id (by omega) (by omega)
          obtain ⟨u, hu⟩ := get_some hlt
          simp [hu, hw, q2, q3, q5]
          refine ⟨fun hux => ?_, fun hux => ⟨hlt, ?_⟩⟩
          · subst hux
            intro h; exact h.2.2 (List.mem_of_getElem? hu)
          · rw [take_snoc hu]; simp; exact ⟨hn, fun h => hux h.symm⟩
        · obtain rfl : j = f.length := by omega
          rw [List.take_of_length_le (Nat.le_refl _)] at hn
          exact ⟨hr, hz, hn⟩
    · have : ¬ liveP g f x y := fun h => by have := h.2.1; rw [hz] at this; cases this; exact hzy rfl
      simp [hr.1, hz, hzy, this]
  · refine callX_of ((w71 _ _ _).f hr) (by simp) ?_
    have : ¬ liveP g f x y := fun h => hr h.1
    simp [this]

theorem w44 (g f : List Int) (x y : Int) (hg : g.length ≤ 2^40) (hf : f.length ≤ 2^40) : Contract Try.prog false 44 [.ro, .ro] [entsR g f, entT x y] [.b (decide (EntsOkP g f ∧ liveP g f x y))] [] := by
  refine mk_contract [] Try.func44 (c := Try.f44.body.get!) (by kernel_rfl) k44 r44 (of_decide_eq_true rfl) fun _ => ?_
  unfold c44 entT entsR; simp
  refine callW_ms [.ro] ?_
  simp
  refine callX_of (w92 g f hg hf) (by simp) ?_
  simp
  by_cases hE : EntsOkP g f
  · simp [hE]
    refine callW_ms [.ro, .ro] ?_
    simp
    refine callX_of (w97 g f x y hg hf) (by simp) ?_
    simp
  · simp [hE]
theorem w45 (g f : List Int) (x y : Int) (hg : g.length ≤ 2^40) (hf : f.length ≤ 2^40) : Contract Try.prog false 45 [.ro, .ro] [entsR g f, entT x y] [.b (decide (EntsOkP g f ∧ liveP g f x y))] [] := by
  refine mk_contract [] Try.func45 (c := Try.f45.body.get!) (by kernel_rfl) k45 r45 (of_decide_eq_true rfl) fun _ => ?_
  unfold c45 entT entsR; simp
  refine callW_ms [.ro] ?_
  simp
  refine callX_of (w89 g f hg hf) (by simp) ?_
  simp
  by_cases hE : EntsOkP g f
  · simp [hE]
    refine callW_ms [.ro, .ro] ?_
    simp [fz, fzL]
    refine callX_of (w95 g f x y hg hf) (by simp) ?_
    simp
  · simp [hE]

end Go.Proofs.YtloodkhdngipbaaT
