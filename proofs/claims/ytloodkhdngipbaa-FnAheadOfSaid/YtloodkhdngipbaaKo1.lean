/- Draws of things: the plain part, and l2Take where all is full. -/
import Derived.Test.YtloodkhdngipbaaKk
import Derived.Test.YtloodkhdngipbaaKr0
import Derived.Test.YtloodkhdngipbaaTmAo
namespace Go.Proofs.YtloodkhdngipbaaT
set_option linter.unusedVariables false
set_option linter.unusedSimpArgs false
open Go

theorem W94a (g : List Int) (hg : g.length = 2000) : Contract Try.prog true 94 [.ro] [entsR g []] [entsR g [], entT 0 0, .i .i64 3] [] := by
  refine mk_contract [] Try.func94 (c := Try.f94.body.get!) (by kernel_rfl) k94 r94 (of_decide_eq_true rfl) fun _ => ?_
  unfold c94; unfold entsR entT; simp [hg]
theorem W94f (g : List Int) (hg : g.length = 2000) : Contract Try.prog false 94 [.ro] [entsR g []] [.ag [.sl false 0 ((g.map iT).map fun _ => []), .sl false 1 []], entT 0 0, .i .i64 3] [] :=
  Contract.blur (W94a g hg) rfl

theorem EntsOkP.fl {g f : List Int} (h : EntsOkP g f) : f.length ≤ 2000 := by
  have := len_le_of_nodup _ f h.2.1.1 h.2.1.2
  have := h.2.2
  omega
theorem EntsOkP.nil {g : List Int} (h : ∀ x ∈ g, x = 0) (hl : g.length ≤ 2000) : EntsOkP g [] :=
  ⟨fun x hx => by rw [h x hx]; omega, ⟨by simp, List.nodup_nil⟩, hl⟩
theorem EntsOkP.set {g f : List Int} (h : EntsOkP g f) (k : Nat) {v : Int} (hv : 0 ≤ v ∧ v ≤ 1000000) : EntsOkP (g.set k v) f := by
  refine ⟨fun x hx => ?_, by simpa using h.2.1, by simpa using h.2.2⟩
  rcases List.mem_or_eq_of_mem_set hx with hx | rfl
  · exact h.1 x hx
  · exact hv
/-- Not full: something is taken. -/
theorem EntsOkP.take {g f : List Int} (h : EntsOkP g f) (hn : ¬ (g.length = 2000 ∧ f = [])) :
    ∃ (g1 f1 : List Int) (x y : Int), takeP g f = ((g1, f1), (x, y), 0) ∧ EntsOkP g1 f1 ∧ 0 ≤ x ∧ x.toNat < g1.length := by
  have h3 := h.2.2
  rcases List.eq_nil_or_concat f with rfl | ⟨f0, x, rfl⟩
  · refine ⟨g ++ [0], [], g.length, 0, ?_, ⟨?_, ⟨by simp, List.nodup_nil⟩, ?_⟩, by omega, by simp⟩
    · simp only [takeP, if_pos, show ¬ 2000 ≤ g.length by simp at hn; omega, if_false]
    · intro z hz
      rcases List.mem_append.1 hz with hz | hz
      · exact h.1 z hz
      · simp at hz; subst hz; omega
    · simp at hn ⊢; omega
  · rw [List.concat_eq_append] at h ⊢
    obtain ⟨h1, h2, h3⟩ := freeOk_snoc.1 h.2.1
    obtain ⟨y, hy⟩ : ∃ y, g[x.toNat]? = some y := get_some (by omega)
    exact ⟨g, f0, x, y, takeP_snoc g f0 x y hy, ⟨h.1, h1, h.2.2⟩, h2.1, by omega⟩
theorem EntsOkP.give {g f : List Int} {x y : Int} (h : EntsOkP g f) (hl : liveP g f x y) : EntsOkP (giveG g x y) (f ++ [x]) := by
  have hy := h.1 y (List.mem_of_getElem? hl.2.1)
  have h2 : EntsOkP (giveG g x y) f := by
    unfold giveG
    refine h.set _ ?_
    split <;> omega
  refine ⟨h2.1, freeOk_snoc.2 ⟨h2.2.1, ⟨hl.1.1, ?_⟩, hl.2.2⟩, h2.2.2⟩
  rw [giveG_len]
  have := hl.1.2
  omega
end Go.Proofs.YtloodkhdngipbaaT
