/- The law FnExactEntsOk, walked. -/
import Derived.Test.YtlddgmpaaobpoaaKb
namespace Go.Proofs.YtlddgmpaaobpoaaT
set_option linter.unusedVariables false
set_option linter.unusedSimpArgs false
open Go

theorem szEntsF_len {g f : List Int} {n : Int} (h : ¬ szEntsF g f n < 0) : g.length ≤ n ∧ f.length ≤ n := by
  unfold szEntsF at h
  split at h
  · omega
  · rename_i h1
    have h2 := szF_k n g.length (by omega)
    have h3 := szF_k _ f.length (by omega : 0 ≤ szF (szF n g.length) f.length)
    unfold szF at h1 h3
    split at h3 <;> omega

theorem w6 (g f : List Int) (hg : g.length < 2^63) (hf : f.length < 2^63) : Contract Try.prog false 6 [.ro] [entsR g f] [.b true] [] := by
  refine mk_contract [] Try.func6 (c := Try.f6.body.get!) (by kernel_rfl) k6 r6 (of_decide_eq_true rfl) fun _ => ?_
  unfold c6 entsR; simp
  refine callW_ms [.ro, .ro] ?_
  simp
  refine callX_of (w19 g f _ hg hf (by omega) (by omega)) (by simp) ?_
  simp
  intro h
  obtain ⟨hg2, hf2⟩ := szEntsF_len (by omega : ¬ szEntsF g f 1048576 < 0)
  refine callW_ms [.ro] ?_
  simp
  refine callX_of (w21 g f (by omega) (by omega)) (by simp) ?_
  simp [entsO]
  refine callW_ms [.ro] ?_
  simp
  refine callX_of (w20 g f (by omega) (by omega)) (by simp) ?_
  simp
  refine callW_ms [.ro] ?_
  simp
  refine callX_of (w21 g f (by omega) (by omega)) (by simp) ?_
  simp [entsO]
  refine callW_ms [.ro] ?_
  simp
  refine callX_of (w22 g f (by omega) (by omega)) (by simp) ?_
  simp
  refine callW_ms [.ro] ?_
  simp
  refine callX_of (w21 g f (by omega) (by omega)) (by simp) ?_
  simp [entsO]
  refine callW_ms [.ro, .ro] ?_
  simp
  refine callX_of (w23 g f g f (by omega) (by omega) (by omega) (by omega)) (by simp) ?_
  simp
end Go.Proofs.YtlddgmpaaobpoaaT
