/- Texts of this session's own, one behind the other: TmAn, TmAo. -/
import Derived.Test.YtehmdblkkpdmoaaPk8
import Derived.Sort.Grow
namespace Go.Proofs.YtehmdblkkpdmoaaT
set_option linter.unusedVariables false
set_option linter.unusedSimpArgs false
open Go Go.Sort
section
variable {P : Program} {w : World} {κ : Path → Value} {γ : Nat → Nat → Option Path} {A : Nat → Nat → Prop}
end
end Go.Proofs.YtehmdblkkpdmoaaT


namespace Go.Proofs.YtehmdblkkpdmoaaT
set_option linter.unusedVariables false
set_option linter.unusedSimpArgs false
open Go
theorem RR.blur {w : World} {A K : Nat → Nat → Prop} {z : Nat} {es : List (List TV)} {v : Value} (h : RR w A (.sl false z es) v) : RR w K (.sl false 0 (es.map fun _ => [])) v := by
 cases h with
 | sl0 z => exact .sl0 0
 | sle z c a => exact .sle 0 c a
 | sl z n c B o es arr T fz hl hn hz hb hs hA hc =>
  refine .sl 0 n c B o _ arr T fz (by simpa using hl) hn (fun e he => ?_) hb (by omega) (fun k hk => absurd hk (by omega)) ?_
  ·obtain ⟨_, _, rfl⟩ := List.mem_map.1 he; rfl
  ·intro i f e u he hf
   have : e = [] := by obtain ⟨_, _, rfl⟩ := List.mem_map.1 (List.mem_of_getElem? he); rfl
   subst this; cases hf
theorem Contract.blur {P : Program} {g : FuncId} {ms : List Mode} {args rest : List TV} {z : Nat} {es : List (List TV)} (h : Contract P true g ms args (.ag [.sl false z es, .sl false 1 []] :: rest) []) (hr : (rest.flatMap cellsT).all noRO = true) :
  Contract P false g ms args (.ag [.sl false 0 (es.map fun _ => []), .sl false 1 []] :: rest) [] := by
 intro w vs κ γ A hA hg hAA
 refine Calls.mono (h w vs κ γ A hA hg hAA) fun e w' he => ?_
 obtain ⟨rs, κ', γ', e1, hres, ho, hγ, hch⟩ := he
 refine ⟨rs, κ', γ', e1, ⟨by simpa using hres.len, ?_, ?_, hres.val⟩, by simp, hγ, hch⟩
 ·intro j u v hu hv
  cases j with
  | zero =>
   have := hres.ag 0 _ v rfl hv
   simp only [List.getElem?_cons_zero, Option.some.injEq] at hu; subst hu
   simpa [isAg, cellsT] using this
  | succ j => exact hres.ag (j + 1) u v (by simpa using hu) hv
 ·intro m c hc
  simp only [List.flatMap_cons, cellsT] at hc
  match m, hc with
  | 0, hc =>
   simp at hc; subst hc
   have := hres.cell 0 _ rfl
   cases this with
   | pure _ _ _ h => exact .pure _ _ _ h.blur
  | 1, hc =>
   simp at hc; subst hc
   exact (hres.cell 1 (.sl false 1 []) rfl).noro rfl
  | m + 2, hc =>
   have hc2 : (rest.flatMap cellsT)[m]? = some c := by simpa using hc
   exact (hres.cell (m + 2) c (by simpa using hc2)).noro (List.all_eq_true.1 hr c (List.mem_of_getElem? hc2))
def blurT : TV → TV
 | .sl false _ es => .sl false 0 (es.map fun _ => [])
 | u => u
def blurOk : TV → Bool
 | .sl false _ _ => true
 | u => noRO u
theorem TR.blur {w : World} {κ : Path → Value} {γ : Nat → Nat → Option Path} {A K : Nat → Nat → Prop} {p : Path} {u : TV} {v : Value} (h : TR w κ γ A p u v) (hu : blurOk u = true) : TR w κ γ K p (blurT u) v := by
 cases u with
 | sl own z es =>
  cases own with
  | false =>
   cases h with
   | pure _ _ _ h => exact .pure _ _ _ h.blur
  | true => exact h.noro hu
 | _ => exact h.noro hu
theorem Contract.blurs {P : Program} {g : FuncId} {ms : List Mode} {args rest cs : List TV} (h : Contract P true g ms args (.ag cs :: rest) []) (hc : cs.all blurOk = true) (hr : (rest.flatMap cellsT).all noRO = true) :
  Contract P false g ms args (.ag (cs.map blurT) :: rest) [] := by
 intro w vs κ γ A hA hg hAA
 refine Calls.mono (h w vs κ γ A hA hg hAA) fun e w' he => ?_
 obtain ⟨rs, κ', γ', e1, hres, ho, hγ, hch⟩ := he
 refine ⟨rs, κ', γ', e1, ⟨by simpa using hres.len, ?_, ?_, hres.val⟩, by simp, hγ, hch⟩
 ·intro j u v hu hv
  cases j with
  | zero =>
   have := hres.ag 0 _ v rfl hv
   simp only [List.getElem?_cons_zero, Option.some.injEq] at hu; subst hu
   simpa [isAg, cellsT] using this
  | succ j => exact hres.ag (j + 1) u v (by simpa using hu) hv
 ·intro m c hm
  simp only [List.flatMap_cons, cellsT] at hm
  by_cases hlt : m < cs.length
  ·rw [List.getElem?_append_left (by simpa using hlt), List.getElem?_map] at hm
   obtain ⟨c0, hc0⟩ : ∃ c0, cs[m]? = some c0 := ⟨cs[m], List.getElem?_eq_getElem hlt⟩
   rw [hc0] at hm
   simp only [Option.map_some, Option.some.injEq] at hm
   subst hm
   refine (hres.cell m c0 ?_).blur (List.all_eq_true.1 hc c0 (List.mem_of_getElem? hc0))
   simp only [List.flatMap_cons, cellsT]
   rw [List.getElem?_append_left hlt]; exact hc0
  ·rw [List.getElem?_append_right (by simpa using hlt)] at hm
   simp only [List.length_map] at hm
   refine (hres.cell m c ?_).noro (List.all_eq_true.1 hr c (List.mem_of_getElem? hm))
   simp only [List.flatMap_cons, cellsT]
   rw [List.getElem?_append_right (by omega)]; exact hm
end Go.Proofs.YtehmdblkkpdmoaaT

