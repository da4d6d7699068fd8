/- The Go law FnExactIsWord answers true for every string: the program's IsWord and the reference's IsWord agree. Condition: none beyond the row's own. -/
import Derived.Test.YtlddgmpaaobpoaaPFnExactIsWordx1
namespace Go.Proofs.Ytlddgmpaaobpoaa.Pure
open Go.RowKit Go.Proofs.Ytlddgmpaaobpoaa.PFnExactIsWord Go.Proofs.YtlddgmpaaobpoaaW.PrintWords Go.Proofs.YtlddgmpaaobpoaaW.PrintLast

theorem iw_ite (p : Prop) [Decidable p] (b : Bool) : (if p then some true else some b) = some (decide p || b) := by
  by_cases h : p <;> simp [h]

theorem iw_loop (x : ByteArray) (W : List ByteArray) (hW : W.length < 1000) (d : Nat) : ∀ (k i : Nat), i + d = W.length → d < k →
    spec_IsWord.l0 k x W (i : Int) = some ((W.drop i).any fun y => decide (x.toList = y.toList)) := by
  induction d with
  | zero =>
    intro k i hi hk
    obtain ⟨k, rfl⟩ : ∃ m, k = m + 1 := ⟨k - 1, by omega⟩
    simp only [spec_IsWord.l0]
    rw [if_neg (by omega), List.drop_eq_nil_of_le (by omega)]
    rfl
  | succ d ih =>
    intro k i hi hk
    obtain ⟨k, rfl⟩ : ∃ m, k = m + 1 := ⟨k - 1, by omega⟩
    have hlt : i < W.length := by omega
    simp only [spec_IsWord.l0]
    rw [if_pos (by omega), if_pos (by omega)]
    have e1 : rdOf ByteArray.empty W (i : Int) = W[i] := by simp [rdOf, List.getD_eq_getElem?_getD, hlt]
    have e2 : wrap64 ((i : Int) + 1) = ((i + 1 : Nat) : Int) := by unfold wrap64; omega
    rw [e1, e2, ih k (i + 1) (by omega) (by omega), List.drop_eq_getElem_cons hlt, List.any_cons, iw_ite]
    congr 2
    simp [eq_comm]

theorem FnExactIsWord : laws_FnExactIsWord.Pure := by
  intro a ha
  refine ⟨40, ?_⟩
  unfold laws_FnExactIsWord.f
  by_cases h : (a.size : Int) > 1048576
  · rw [if_pos h]
  · rw [if_neg h]
    have hs : spec_IsWord.f 40 a = impl_IsWord.f a := by
      unfold spec_IsWord.f spec_l3Words.f
      rw [Option.bind_some]
      rw [show (0 : Int) = ((0 : Nat) : Int) from rfl, iw_loop a _ ?_ 32 40 0 ?_ (by omega)]
      · unfold impl_IsWord.f
        simp only [iw_ite, List.drop_zero, List.any_cons, List.any_nil, ByteArray.toList_eq]
      · decide
      · rfl
    have hi : ∃ b, impl_IsWord.f a = some b := by
      unfold impl_IsWord.f
      simp only [iw_ite]
      exact ⟨_, rfl⟩
    obtain ⟨b, hb⟩ := hi
    rw [hs, hb]
    simp

end Go.Proofs.Ytlddgmpaaobpoaa.Pure
