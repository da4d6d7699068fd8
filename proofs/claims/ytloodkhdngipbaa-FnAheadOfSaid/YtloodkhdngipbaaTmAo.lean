/- TM, part Ao: results told more dimly. -/
import Derived.Test.YtloodkhdngipbaaTmAn
namespace Go.Proofs.YtloodkhdngipbaaT
set_option linter.unusedVariables false
set_option linter.unusedSimpArgs false
open Go

theorem RR.blur {w : World} {A K : Nat → Nat → Prop} {z : Nat} {es : List (List TV)} {v : Value} (h : RR w A (.sl false z es) v) : RR w K (.sl false 0 (es.map fun _ => [])) v := by
  cases h with
  | sl0 z => exact .sl0 0
  | sle z c a => exact .sle 0 c a
  | sl z n c B o es arr T fz hl hn hz hb hs hA hc =>
    refine .sl 0 n c B o _ arr T fz (by simpa using hl) hn (fun e he => ?_) hb (by omega) (fun k hk => absurd hk (by omega)) ?_
    · obtain ⟨_, _, rfl⟩ := List.mem_map.1 he; rfl
    · intro i f e u he hf
      have : e = [] := by obtain ⟨_, _, rfl⟩ := List.mem_map.1 (List.mem_of_getElem? he); rfl
      subst this; cases hf

/-- A result that is one's own nowhere, told by its length alone. -/
theorem Contract.blur {P : Program} {g : FuncId} {ms : List Mode} {args rest : List TV} {z : Nat} {es : List (List TV)} (h : Contract P true g ms args (.ag [.sl false z es, .sl false 1 []] :: rest) []) (hr : (rest.flatMap cellsT).all noRO = true) :
    Contract P false g ms args (.ag [.sl false 0 (es.map fun _ => []), .sl false 1 []] :: rest) [] := by
  intro w vs κ γ A hA hg hAA
  refine Calls.mono (h w vs κ γ A hA hg hAA) fun e w' he => ?_
  obtain ⟨rs, κ', γ', e1, hres, ho, hγ, hch⟩ := he
  refine ⟨rs, κ', γ', e1, ⟨by simpa using hres.len, ?_, ?_, hres.val⟩, by simp, hγ, hch⟩
  · intro j u v hu hv
    cases j with
    | zero =>
      have := hres.ag 0 _ v rfl hv
      simp only [List.getElem?_cons_zero, Option.some.injEq] at hu; subst hu
      simpa [isAg, cellsT] using this
    | succ j => exact hres.ag (j + 1) u v (by simpa using hu) hv
  · intro m c hc
    simp only [List.flatMap_cons, cellsT] at hc
    match m, hc with
    | 0, hc =>
      simp at hc; subst hc
      have := hres.cell 0 _ rfl
      cases this with
      | pure _ _ _ h => exact .pure _ _ _ h.blur
    | 1, hc =>
      simp at hc; subst hc
      exact (hres.cell 1 (.sl false 1 []) rfl).noro rfl
    | m + 2, hc =>
      have hc2 : (rest.flatMap cellsT)[m]? = some c := by simpa using hc
      exact (hres.cell (m + 2) c (by simpa using hc2)).noro (List.all_eq_true.1 hr c (List.mem_of_getElem? hc2))
end Go.Proofs.YtloodkhdngipbaaT
