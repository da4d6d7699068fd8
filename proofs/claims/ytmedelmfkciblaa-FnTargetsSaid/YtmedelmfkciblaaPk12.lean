/- Texts of this session's own, one behind the other: Ksp, Kh, Kz1, Ki, Kx2, Kw2, Kt1, Kz2, Kz3, Kz4, Kz5, Kz6, Kx4, Kx6, Ku3, Ky1, Ku6, Ku7, Ku8, Kj, Km3, Km0, Kk, Kr0, Ko1, Kp3, Km4, Kr1, Kn1, Km1, Ku9. -/
import Derived.Test.YtmedelmfkciblaaPk11
import Derived.Lib.SlicesCompact
namespace Go.Proofs.YtmedelmfkciblaaT
set_option linter.unusedVariables false
set_option linter.unusedSimpArgs false
open Go
abbrev srt (zs : List Int) : List Int := zs.mergeSort fun x y => decide (x ≤ y)
theorem compact_le (zs : List Int) : (Lib.compact zs).length ≤ zs.length := by
 unfold Lib.compact Lib.compactUpTo
 rw [List.length_map]
 exact Nat.le_trans (List.length_filter_le _ _) (by simp)
def ris (l : List Int) : Prop := l.Pairwise (· < ·)
theorem ris_ext : ∀ {a b : List Int}, ris a → ris b → (∀ x, x ∈ a ↔ x ∈ b) → a = b
 | [], [], _, _, _ => rfl
 | [], y :: b, _, _, h => by have := (h y).2 (by simp); simp at this
 | x :: a, [], _, _, h => by have := (h x).1 (by simp); simp at this
 | x :: a, y :: b, ha, hb, h => by
  have ha' := List.pairwise_cons.1 ha
  have hb' := List.pairwise_cons.1 hb
  have hxy : x = y := by
   rcases List.mem_cons.1 ((h x).1 (by simp)) with h1 | h1
   ·exact h1
   ·rcases List.mem_cons.1 ((h y).2 (by simp)) with h2 | h2
    ·exact h2.symm
    ·have := ha'.1 y h2; have := hb'.1 x h1; omega
  subst hxy
  congr 1
  refine ris_ext ha'.2 hb'.2 fun z => ⟨fun hz => ?_, fun hz => ?_⟩
  ·rcases List.mem_cons.1 ((h z).1 (by simp [hz])) with h1 | h1
   ·subst h1; have := ha'.1 z hz; omega
   ·exact h1
  ·rcases List.mem_cons.1 ((h z).2 (by simp [hz])) with h1 | h1
   ·subst h1; have := hb'.1 z hz; omega
   ·exact h1
def asc (l : List Int) : List Int := Lib.compact (srt l)
theorem comp_inv (d : Array Int) (hd : ∀ i j, i ≤ j → j < d.size → d[i]! ≤ d[j]!) : ∀ m, m ≤ d.size → ris (Lib.compactUpTo d m) ∧ (∀ x, x ∈ Lib.compactUpTo d m ↔ ∃ i, i < m ∧ d[i]! = x)
 | 0, _ => by
  constructor
  ·exact List.Pairwise.nil
  ·intro x; simp [Lib.compactUpTo]
 | m + 1, hm => by
  obtain ⟨h1, h2⟩ := comp_inv d hd m (by omega)
  rw [Lib.compactUpTo_succ]
  by_cases hk : Lib.keeps d m = true
  ·rw [if_pos hk]
   refine ⟨?_, fun x => ?_⟩
   ·refine List.pairwise_append.2 ⟨h1, List.pairwise_singleton _ _, fun x hx y hy => ?_⟩
    rw [List.mem_singleton] at hy; subst hy
    obtain ⟨i, hi, rfl⟩ := (h2 x).1 hx
    have hk' : m = 0 ∨ d[m]! ≠ d[m - 1]! := of_decide_eq_true hk
    have e1 := hd i (m - 1) (by omega) (by omega)
    have e2 := hd (m - 1) m (by omega) (by omega)
    rcases hk' with h0 | hne
    ·omega
    ·omega
   ·rw [List.mem_append, h2, List.mem_singleton]
    constructor
    ·rintro (⟨i, hi, rfl⟩ | rfl)
     ·exact ⟨i, by omega, rfl⟩
     ·exact ⟨m, by omega, rfl⟩
    ·rintro ⟨i, hi, rfl⟩
     rcases Nat.lt_or_ge i m with h | h
     ·exact .inl ⟨i, h, rfl⟩
     ·obtain rfl : i = m := by omega
      exact .inr rfl
  ·rw [if_neg hk, List.append_nil]
   refine ⟨h1, fun x => ?_⟩
   rw [h2]
   constructor
   ·rintro ⟨i, hi, rfl⟩; exact ⟨i, by omega, rfl⟩
   ·rintro ⟨i, hi, rfl⟩
    rcases Nat.lt_or_ge i m with h | h
    ·exact ⟨i, h, rfl⟩
    ·obtain rfl : i = m := by omega
     have hk' : ¬ (i = 0 ∨ d[i]! ≠ d[i - 1]!) := fun h => hk (decide_eq_true h)
     have h0 : i ≠ 0 := fun h => hk' (.inl h)
     have he : d[i]! = d[i - 1]! := Decidable.byContradiction fun h => hk' (.inr h)
     exact ⟨i - 1, by omega, he.symm⟩
theorem srt_le (l : List Int) : (srt l).Pairwise (· ≤ ·) := by
 have := List.pairwise_mergeSort (le := fun x y : Int => decide (x ≤ y)) (fun a b c h1 h2 => by simp at *; omega) (fun a b => by simp; omega) l
 exact this.imp fun h => of_decide_eq_true h
theorem asc_both (l : List Int) : ris (asc l) ∧ ∀ x, x ∈ asc l ↔ x ∈ l := by
 have hs := srt_le l
 have hget : ∀ i (h : i < (srt l).length), (srt l).toArray[i]! = (srt l)[i] := fun i h => by rw [getElem!_pos _ i (by simpa using h)]; simp
 obtain ⟨h1, h2⟩ := comp_inv (srt l).toArray (fun i j hij hj => by
  have hj' : j < (srt l).length := by simpa using hj
  rw [hget j hj', hget i (by omega)]
  rcases Nat.lt_or_ge i j with h | h
  ·exact List.pairwise_iff_getElem.1 hs i j (by omega) hj' h
  ·obtain rfl : i = j := by omega
   exact Int.le_refl _) (srt l).length (by simp)
 refine ⟨h1, fun x => ?_⟩
 show x ∈ Lib.compactUpTo _ _ ↔ _
 rw [h2, ← List.mem_mergeSort (le := fun x y : Int => decide (x ≤ y))]
 constructor
 ·rintro ⟨i, hi, rfl⟩; rw [hget i hi]; exact List.getElem_mem hi
 ·intro hx
  obtain ⟨i, hi, rfl⟩ := List.getElem_of_mem hx
  exact ⟨i, hi, hget i hi⟩
theorem asc_ris (l : List Int) : ris (asc l) := (asc_both l).1
theorem asc_mem (l : List Int) (x : Int) : x ∈ asc l ↔ x ∈ l := (asc_both l).2 x
theorem asc_eq {l r : List Int} (h1 : ris r) (h2 : ∀ x, x ∈ r ↔ x ∈ l) : r = asc l := ris_ext h1 (asc_ris l) fun x => by rw [h2, asc_mem]
theorem asc_len (l : List Int) : (asc l).length ≤ l.length := by
 have := compact_le (srt l)
 rwa [List.length_mergeSort] at this
end Go.Proofs.YtmedelmfkciblaaT


namespace Go.Proofs.YtmedelmfkciblaaT
set_option linter.unusedVariables false
set_option linter.unusedSimpArgs false
open Go
def c84 : TCode := (.seq (.ops [⟨(some 1), 3, .box 3 (.t 0), none, []⟩, ⟨(some 2), 4, .mv (.c (.b false)), none, []⟩])
 (.seq (.seq (.ops [⟨(some 6), 8, .faddr 0 1 (.t 1), none, []⟩, ⟨(some 7), 9, .load false 1 (.t 6), none, []⟩, ⟨(some 8), 10, .len false (.t 7), none, []⟩, ⟨(some 9), 11, .bin .gtr (.t 8) (.c (.i .i64 12)), none, []⟩, ⟨(some 10), 12, .mv (.t 9), none, []⟩, ⟨(some 11), 13, .faddr 1 1 (.t 1), (some (10, false)), []⟩, ⟨(some 12), 14, .load false 1 (.t 11), (some (10, false)), []⟩, ⟨(some 13), 15, .len false (.t 12), (some (10, false)), []⟩, ⟨(some 14), 16, .bin .gtr (.t 13) (.c (.i .i64 12)), (some (10, false)), []⟩, ⟨(some 15), 17, .pick (.t 10) (.c (.b true)) (.t 14), none, []⟩, ⟨(some 16), 18, .mv (.t 15), none, []⟩, ⟨(some 17), 19, .faddr 2 1 (.t 1), (some (16, false)), []⟩, ⟨(some 18), 20, .load false 1 (.t 17), (some (16, false)), []⟩, ⟨(some 19), 21, .len false (.t 18), (some (16, false)), []⟩, ⟨(some 20), 22, .bin .gtr (.t 19) (.c (.i .i64 12)), (some (16, false)), []⟩, ⟨(some 21), 23, .pick (.t 16) (.c (.b true)) (.t 20), none, []⟩])
 (.cond (.t 21)
 (.seq (.ops [⟨(some 2), 4, .mv (.c (.b false)), none, []⟩])
 .ret)
 .skip))
 (.seq (.draw [⟨(some 22), 24, .bslice 2 0 [(.s ⟨#[]⟩), (.i .i64 0)] [], none, []⟩, ⟨(some 23), 25, .faddr 0 1 (.t 1), none, [0]⟩, ⟨(some 24), 26, .load false 1 (.t 23), none, [0]⟩, ⟨(some 25), 27, .app 2 24 (.t 22) (.t 24), none, []⟩, ⟨(some 26), 28, .faddr 1 1 (.t 1), none, [0, 3]⟩, ⟨(some 27), 29, .load false 1 (.t 26), none, [0, 3]⟩, ⟨(some 28), 30, .app 2 24 (.t 25) (.t 27), none, []⟩, ⟨(some 29), 31, .faddr 2 1 (.t 1), none, [0, 3, 6]⟩, ⟨(some 30), 32, .load false 1 (.t 29), none, [0, 3, 6]⟩, ⟨(some 31), 33, .app 2 24 (.t 28) (.t 30), none, []⟩, ⟨(some 3), 5, .mv (.t 31), none, []⟩])
 (.seq (.seq (.ops [⟨(some 4), 6, .mv (.c (.i .i64 0)), none, []⟩])
 (.block 0 (.loop (.seq (.seq (.ops [⟨(some 32), 34, .mv (.t 4), none, []⟩, ⟨(some 33), 35, .mv (.t 3), none, []⟩, ⟨(some 34), 36, .len false (.t 33), none, []⟩, ⟨(some 35), 37, .bin .lss (.t 32) (.t 34), none, []⟩])
 (.cond (.t 35)
 .skip
 (.exit 0)))
 (.seq (.block 1 (.seq (.seq (.ops [⟨(some 38), 40, .mv (.t 3), none, []⟩, ⟨(some 39), 41, .mv (.t 4), none, []⟩, ⟨(some 40), 42, .iaddr 2 (.t 38) (.t 39), none, []⟩, ⟨(some 41), 43, .faddr 0 1 (.t 40), none, []⟩, ⟨(some 42), 44, .load false 1 (.t 41), none, []⟩, ⟨(some 43), 45, .call 145 [((.t 42), 0)], none, []⟩, ⟨(some 44), 46, .un .not (.t 43), none, []⟩, ⟨(some 45), 47, .mv (.t 44), none, []⟩, ⟨(some 46), 48, .mv (.t 3), (some (45, false)), []⟩, ⟨(some 47), 49, .mv (.t 4), (some (45, false)), []⟩, ⟨(some 48), 50, .iaddr 2 (.t 46) (.t 47), (some (45, false)), []⟩, ⟨(some 49), 51, .faddr 1 1 (.t 48), (some (45, false)), []⟩, ⟨(some 50), 52, .load false 1 (.t 49), (some (45, false)), []⟩, ⟨(some 51), 53, .call 87 [((.t 50), 0), ((.c (.i .i64 1)), 0), ((.c (.i .i64 4)), 0)], (some (45, false)), []⟩, ⟨(some 52), 54, .un .not (.t 51), (some (45, false)), []⟩, ⟨(some 53), 55, .pick (.t 45) (.c (.b true)) (.t 52), none, []⟩])
 (.cond (.t 53)
 (.seq (.ops [⟨(some 2), 4, .mv (.c (.b false)), none, []⟩])
 .ret)
 .skip))
 (.seq (.ops [⟨(some 5), 7, .mv (.c (.i .i64 0)), none, []⟩])
 (.block 2 (.loop (.seq (.seq (.ops [⟨(some 54), 56, .mv (.t 5), none, []⟩, ⟨(some 55), 57, .mv (.t 4), none, []⟩, ⟨(some 56), 58, .bin .lss (.t 54) (.t 55), none, []⟩])
 (.cond (.t 56)
 .skip
 (.exit 2)))
 (.seq (.block 3 (.seq (.draw [⟨(some 59), 61, .mv (.t 3), none, []⟩, ⟨(some 60), 62, .mv (.t 5), none, []⟩, ⟨(some 61), 63, .iaddr 2 (.t 59) (.t 60), none, []⟩, ⟨(some 62), 64, .faddr 0 1 (.t 61), none, []⟩, ⟨(some 63), 65, .load false 1 (.t 62), none, []⟩, ⟨(some 64), 66, .mv (.t 3), none, []⟩, ⟨(some 65), 67, .mv (.t 4), none, []⟩, ⟨(some 66), 68, .iaddr 2 (.t 64) (.t 65), none, []⟩, ⟨(some 67), 69, .faddr 0 1 (.t 66), none, []⟩, ⟨(some 68), 70, .load false 1 (.t 67), none, []⟩, ⟨(some 69), 71, .bin .eql (.t 63) (.t 68), none, []⟩])
 (.cond (.t 69)
 (.seq (.ops [⟨(some 2), 4, .mv (.c (.b false)), none, []⟩])
 .ret)
 .skip)))
 (.ops [⟨(some 57), 59, .mv (.t 5), none, []⟩, ⟨(some 58), 60, .bin .add (.t 57) (.c (.i .i64 1)), none, []⟩, ⟨(some 5), 7, .mv (.t 58), none, []⟩]))))))))
 (.ops [⟨(some 36), 38, .mv (.t 4), none, []⟩, ⟨(some 37), 39, .bin .add (.t 36) (.c (.i .i64 1)), none, []⟩, ⟨(some 4), 6, .mv (.t 37), none, []⟩]))))))
 (.seq (.ops [⟨(some 2), 4, .mv (.c (.b true)), none, []⟩])
 .ret)))))
theorem k84 : compCode Try.prog Try.f84.ntmps Try.f84.body.get! = some c84 := by kernel_rfl
theorem r84 : resTmps Try.prog Try.f84.results.toList = some [.tmp 2] := by kernel_rfl
def idxP {α : Type} (p : α → Bool) (l : List α) : Int := match l.findIdx? p with
 | some i => i
 | none => -1
theorem idxP_at {α : Type} {p : α → Bool} {l : List α} {x : α} {j : Nat} (h : l[j]? = some x) (hp : p x = true) (hn : ∀ y ∈ l.take j, p y = false) : idxP p l = j := by
 have hj := (List.getElem?_eq_some_iff.1 h).1
 have : l.findIdx? p = some j := by
  rw [List.findIdx?_eq_some_iff_getElem]
  refine ⟨hj, by rw [(List.getElem?_eq_some_iff.1 h).2]; exact hp, fun k hk => ?_⟩
  have := hn (l[k]) (by rw [List.mem_take_iff_getElem]; exact ⟨k, by omega, rfl⟩)
  simp [this]
 simp [idxP, this]
theorem idxP_none {α : Type} {p : α → Bool} {l : List α} (h : ∀ y ∈ l, p y = false) : idxP p l = -1 := by
 have : l.findIdx? p = none := by rw [List.findIdx?_eq_none_iff]; exact fun x hx => by simp [h x hx]
 simp [idxP, this]
theorem idxP_ge {α : Type} {p : α → Bool} {l : List α} : 0 ≤ idxP p l ↔ ∃ y ∈ l, p y = true := by
 unfold idxP
 split
 ·rename_i i hi
  rw [List.findIdx?_eq_some_iff_getElem] at hi
  obtain ⟨h1, h2, _⟩ := hi
  exact ⟨fun _ => ⟨l[i], List.getElem_mem h1, h2⟩, fun _ => by omega⟩
 ·rename_i hi
  rw [List.findIdx?_eq_none_iff] at hi
  exact ⟨fun h => by omega, fun ⟨y, h1, h2⟩ => by have := hi y h1; simp [h2] at this⟩
def goodD (d : ByteArray × Int) : Prop := nameP d.1 ∧ 1 ≤ d.2 ∧ d.2 ≤ 4
def okPre (l : List (ByteArray × Int)) : Prop := (∀ d ∈ l, goodD d) ∧ (l.map (·.1)).Nodup
noncomputable instance okPreD (l : List (ByteArray × Int)) : Decidable (okPre l) := Classical.propDecidable _
def RegOkP (c r e : List (ByteArray × Int)) : Prop := (c.length ≤ 12 ∧ r.length ≤ 12 ∧ e.length ≤ 12) ∧ okPre (c ++ r ++ e)
noncomputable instance (c r e : List (ByteArray × Int)) : Decidable (RegOkP c r e) := Classical.propDecidable _
theorem okPre_snoc {l : List (ByteArray × Int)} {d : ByteArray × Int} : okPre (l ++ [d]) ↔ okPre l ∧ goodD d ∧ d.1 ∉ l.map (·.1) := by
 unfold okPre
 simp only [List.mem_append, List.mem_singleton, List.map_append, List.map_cons, List.map_nil, List.nodup_append, List.nodup_cons]
 constructor
 ·rintro ⟨h1, h2, _, h3⟩
  exact ⟨⟨fun y hy => h1 y (.inl hy), h2⟩, h1 d (.inr rfl), fun hx => h3 _ hx _ (by simp) rfl⟩
 ·rintro ⟨⟨h1, h2⟩, h3, h4⟩
  refine ⟨fun y hy => ?_, h2, by simp, fun y hy z hz => ?_⟩
  ·rcases hy with hy | rfl
   ·exact h1 y hy
   ·exact h3
  ·subst hz; rintro rfl; exact h4 hy
theorem okPre_take {l : List (ByteArray × Int)} (h : okPre l) (j : Nat) : okPre (l.take j) :=
 ⟨fun x hx => h.1 x (List.mem_of_mem_take hx), by rw [List.map_take]; exact h.2.sublist (List.take_sublist j _)⟩
theorem w84 (c r e : List (ByteArray × Int)) (hc : c.length ≤ 2^40) (hr : r.length ≤ 2^40) (he : e.length ≤ 2^40) : Contract Try.prog false 84 [.ro] [regR c r e] [.b (decide (RegOkP c r e))] [] := by
 refine mk_contract [] Try.func84 (c := Try.f84.body.get!) (by kernel_rfl) k84 r84 (of_decide_eq_true rfl) fun _ => ?_
 unfold c84; unfold regR; simp
 by_cases h1 : (12 : Int) < c.length
 ·have : ¬ RegOkP c r e := fun h => by have := h.1.1; omega
  simp [h1, this]
 by_cases h2 : (12 : Int) < r.length
 ·have : ¬ RegOkP c r e := fun h => by have := h.1.2.1; omega
  simp [h1, h2, this]
 by_cases h3 : (12 : Int) < e.length
 ·have : ¬ RegOkP c r e := fun h => by have := h.1.2.2; omega
  simp [h1, h2, h3, this]
 simp [h1, h2, h3]
 refine ⟨by omega, by omega, by omega, ?_⟩
 obtain ⟨L, hL⟩ : ∃ L, L = c ++ r ++ e := ⟨_, rfl⟩
 have hLl : L.length ≤ 36 := by subst hL; simp; omega
 have hP : RegOkP c r e ↔ okPre L := by subst hL; exact ⟨fun h => h.2, fun h => ⟨by omega, h⟩⟩
 rw [show decide (RegOkP c r e) = decide (okPre L) from decide_eq_decide.2 hP]
 refine twp_for L.length (fun j s => s.t 3 = .rf [(33, 0)] 0 L.length ∧ s.t 4 = .i .i64 j ∧ okPre (L.take j) ∧ s.H = lk [(1, []), (3, [.po true [.sl false 2 (c.map dT), .sl false 2 (r.map dT), .sl false 2 (e.map dT)]]), (33, [.sl true 2 (L.map dT)])]) [24, 27, 30] (by simp) ?_ ?_
 ·simp [hL, okPre, Nat.add_assoc]
 ·rintro j s hj ⟨q3, q4, hn, qH⟩
  rw [nf_of qH]
  simp [q3, q4]
  refine ⟨fun hlt => ?_, fun hge => ?_⟩
  ·have hw : IntKind.i64.wrap (j + 1) = j + 1 := wrap_id (by omega) (by omega)
   obtain ⟨x, hx⟩ := get_some hlt
   simp [hx, hw, q3, q4]
   have hbad : okPre L → goodD x := fun h => h.1 x (List.mem_of_getElem? hx)
   refine ⟨hlt, ?_⟩
   by_cases hn1 : nameP x.1
   ·refine callW_ms [.ro] ?_
    simp
    refine callX_of ((w145 x.1).t hn1) (by simp) ?_
    simp [hw, q3, q4, hx]
    refine ⟨hlt, ?_⟩
    by_cases hk : 1 ≤ x.2 ∧ x.2 ≤ 4
    ·refine callW_ms [.ro, .ro, .ro] ?_
     simp
     refine callX_of ((w87 x.2 1 4).t hk) (by simp) ?_
     simp [hw, q3, q4, hx]
     refine twp_for j (fun i s2 => s2.t 3 = .rf [(33, 0)] 0 L.length ∧ s2.t 4 = .i .i64 j ∧ s2.t 5 = .i .i64 i ∧ (∀ d ∈ L.take i, d.1 ≠ x.1) ∧ s2.H = lk [(1, []), (3, [.po true [.sl false 2 (c.map dT), .sl false 2 (r.map dT), .sl false 2 (e.map dT)]]), (33, [.sl true 2 (L.map dT)])]) [] (by simp) ?_ ?_
     ·simp [q3, q4]
     ·rintro i s2 hi ⟨p3, p4, p5, hd, pH⟩
      rw [nf_of pH]
      simp [p3, p4, p5]
      refine ⟨fun hlt2 => ?_, fun hge2 => ?_⟩
      ·have hwi : IntKind.i64.wrap (i + 1) = i + 1 := wrap_id (by omega) (by omega)
       obtain ⟨y, hy⟩ := get_some (l := L) (j := i) (by omega)
       simp [hy, hwi, hx, p3, p4, p5]
       refine ⟨by omega, hlt, ?_⟩
       refine ⟨fun h h2 => ?_, fun h => ⟨hlt2, fun a b hab => ?_⟩⟩
       ·have h3 := okPre_take h2 (j + 1)
        rw [take_snoc hx, okPre_snoc] at h3
        refine h3.2.2 (List.mem_map.2 ⟨y, ?_, h⟩)
        rw [List.mem_take_iff_getElem]
        exact ⟨i, by omega, (List.getElem?_eq_some_iff.1 hy).2⟩
       ·rw [take_snoc hy, List.mem_append, List.mem_singleton] at hab
        rcases hab with hab | hab
        ·exact hd _ hab
        ·rw [show a = y.1 by rw [← hab]]; exact h
      ·obtain rfl : i = j := by omega
       simp [p3, p4, p5, hw]
       refine ⟨hlt, ?_⟩
       rw [take_snoc hx, okPre_snoc]
       refine ⟨hn, ⟨hn1, hk⟩, fun h => ?_⟩
       obtain ⟨d, hd1, hd2⟩ := List.mem_map.1 h
       exact hd d hd1 hd2
    ·refine callW_ms [.ro, .ro, .ro] ?_
     simp
     refine callX_of ((w87 x.2 1 4).f hk) (by simp) ?_
     simp [hw, q3, q4, hx]
     intro h; exact hk (hbad h).2
   ·refine callW_ms [.ro] ?_
    simp
    refine callX_of ((w145 x.1).f hn1) (by simp) ?_
    simp [hw, q3, q4, hx]
    intro h; exact hn1 (hbad h).1
  ·obtain rfl : j = L.length := by omega
   rw [List.take_of_length_le (Nat.le_refl _)] at hn
   exact hn
end Go.Proofs.YtmedelmfkciblaaT


namespace Go.Proofs.YtmedelmfkciblaaT
set_option linter.unusedVariables false
set_option linter.unusedSimpArgs false
open Go
def colsP (l : List Int) (n : Nat) : Prop := (∀ x ∈ l, 0 ≤ x ∧ x ≤ (n : Int) - 1) ∧ ris l
noncomputable instance (l : List Int) (n : Nat) : Decidable (colsP l n) := Classical.propDecidable _
end Go.Proofs.YtmedelmfkciblaaT


namespace Go.Proofs.YtmedelmfkciblaaT
set_option linter.unusedVariables false
set_option linter.unusedSimpArgs false
open Go
end Go.Proofs.YtmedelmfkciblaaT


namespace Go.Proofs.YtmedelmfkciblaaT
set_option linter.unusedVariables false
set_option linter.unusedSimpArgs false
open Go
def c59 : TCode := (.seq (.ops [⟨(some 2), 4, .box 4 (.t 0), none, []⟩, ⟨(some 3), 5, .box 2 (.t 1), none, []⟩, ⟨(some 4), 6, .mv (.c (.i .i64 0)), none, []⟩, ⟨(some 5), 7, .mv (.c (.i .i64 0)), none, []⟩])
 (.seq (.seq (.ops [⟨(some 6), 8, .mv (.c (.i .i64 0)), none, []⟩])
 (.block 0 (.loop (.seq (.seq (.ops [⟨(some 8), 10, .mv (.t 6), none, []⟩, ⟨(some 9), 11, .faddr 2 1 (.t 2), none, []⟩, ⟨(some 10), 12, .load false 1 (.t 9), none, []⟩, ⟨(some 11), 13, .len false (.t 10), none, []⟩, ⟨(some 12), 14, .bin .lss (.t 8) (.t 11), none, []⟩])
 (.cond (.t 12)
 .skip
 (.exit 0)))
 (.seq (.block 1 (.seq (.ops [⟨(some 7), 9, .mv (.c (.i .i64 0)), none, []⟩])
 (.block 2 (.loop (.seq (.seq (.ops [⟨(some 15), 17, .mv (.t 7), none, []⟩, ⟨(some 16), 18, .faddr 2 1 (.t 2), none, []⟩, ⟨(some 17), 19, .load false 1 (.t 16), none, []⟩, ⟨(some 18), 20, .mv (.t 6), none, []⟩, ⟨(some 19), 21, .iaddr 3 (.t 17) (.t 18), none, []⟩, ⟨(some 20), 22, .faddr 1 1 (.t 19), none, []⟩, ⟨(some 21), 23, .load false 1 (.t 20), none, []⟩, ⟨(some 22), 24, .len false (.t 21), none, []⟩, ⟨(some 23), 25, .bin .lss (.t 15) (.t 22), none, []⟩])
 (.cond (.t 23)
 .skip
 (.exit 2)))
 (.seq (.block 3 (.seq (.draw [⟨(some 26), 28, .faddr 2 1 (.t 2), none, []⟩, ⟨(some 27), 29, .load false 1 (.t 26), none, []⟩, ⟨(some 28), 30, .mv (.t 6), none, []⟩, ⟨(some 29), 31, .iaddr 3 (.t 27) (.t 28), none, []⟩, ⟨(some 30), 32, .faddr 1 1 (.t 29), none, []⟩, ⟨(some 31), 33, .load false 1 (.t 30), none, []⟩, ⟨(some 32), 34, .mv (.t 7), none, []⟩, ⟨(some 33), 35, .iaddr 2 (.t 31) (.t 32), none, []⟩, ⟨(some 34), 36, .load true 2 (.t 33), none, []⟩, ⟨(some 35), 37, .load true 2 (.t 3), none, []⟩, ⟨(some 36), 38, .eqs false true [.i, .i] (.t 34) (.t 35), none, []⟩])
 (.cond (.t 36)
 (.seq (.ops [⟨(some 37), 39, .mv (.t 6), none, []⟩, ⟨(some 38), 40, .mv (.t 7), none, []⟩, ⟨(some 4), 6, .mv (.t 37), none, []⟩, ⟨(some 5), 7, .mv (.t 38), none, []⟩])
 .ret)
 .skip)))
 (.ops [⟨(some 24), 26, .mv (.t 7), none, []⟩, ⟨(some 25), 27, .bin .add (.t 24) (.c (.i .i64 1)), none, []⟩, ⟨(some 7), 9, .mv (.t 25), none, []⟩])))))))
 (.ops [⟨(some 13), 15, .mv (.t 6), none, []⟩, ⟨(some 14), 16, .bin .add (.t 13) (.c (.i .i64 1)), none, []⟩, ⟨(some 6), 8, .mv (.t 14), none, []⟩]))))))
 (.seq (.ops [⟨(some 4), 6, .mv (.c (.i .i64 (-1))), none, []⟩, ⟨(some 5), 7, .mv (.c (.i .i64 (-1))), none, []⟩])
 .ret)))
theorem k59 : compCode Try.prog Try.f59.ntmps Try.f59.body.get! = some c59 := by kernel_rfl
theorem r59 : resTmps Try.prog Try.f59.results.toList = some [.tmp 4, .tmp 5] := by kernel_rfl
def isE (e : Int × Int) (r : Int × Int) : Bool := decide (r = e)
def noI (e : Int × Int) (l : List (Int × Int)) : Prop := ∀ y ∈ l, isE e y = false
@[simp] theorem noI_nil (e : Int × Int) : noI e [] := fun y h => by cases h
def noE (e : Int × Int) (ts : List TableP) : Prop := ∀ t ∈ ts, ¬ 0 ≤ idxP (isE e) t.2.1
@[simp] theorem noE_nil (e : Int × Int) : noE e [] := fun y h => by cases h
theorem noE_snoc {e : Int × Int} {ts : List TableP} {t : TableP} {j : Nat} (h : noE e (ts.take j)) (ht : ts[j]? = some t) (hi : idxP (isE e) t.2.1 < 0) : noE e (ts.take (j + 1)) := by
 intro z hz
 rw [take_snoc ht] at hz
 rcases List.mem_append.1 hz with h' | h'
 ·exact h z h'
 ·simp at h'; subst h'; omega
def whereG (e : Int × Int) : List TableP → Nat → Int × Int
 | [], _ => (-1, -1)
 | t :: ts, i => if 0 ≤ idxP (isE e) t.2.1 then ((i : Int), idxP (isE e) t.2.1) else whereG e ts (i + 1)
theorem whereG_end {e : Int × Int} {i : Nat} {ts : List TableP} (h : ∀ t ∈ ts, ¬ 0 ≤ idxP (isE e) t.2.1) : whereG e ts i = (-1, -1) := by
 induction ts generalizing i with
 | nil => rfl
 | cons t ts ih =>
  simp only [whereG, if_neg (h t List.mem_cons_self)]
  exact ih fun t ht => h t (List.mem_cons_of_mem _ ht)
theorem whereG_at {e : Int × Int} {t : TableP} : ∀ {j : Nat} {i : Nat} {ts : List TableP}, (∀ t ∈ ts.take j, ¬ 0 ≤ idxP (isE e) t.2.1) → ts[j]? = some t → 0 ≤ idxP (isE e) t.2.1 → whereG e ts i = (((i + j : Nat) : Int), idxP (isE e) t.2.1)
 | 0, i, t0 :: ts, h, ht, hp => by
  simp only [List.getElem?_cons_zero, Option.some.injEq] at ht; subst ht
  simp only [whereG, if_pos hp, Nat.add_zero]
 | j + 1, i, t0 :: ts, h, ht, hp => by
  simp only [whereG, if_neg (h t0 (by simp))]
  rw [whereG_at (j := j) (fun t ht => h t (by simp only [List.take_succ_cons]; exact List.mem_cons_of_mem _ ht)) (by simpa using ht) hp]
  congr 2; omega
 | 0, i, [], h, ht, hp => by simp at ht
 | j + 1, i, [], h, ht, hp => by simp at ht
theorem idxP_take {e : Int × Int} {l : List (Int × Int)} : idxP (isE e) l < 0 ↔ noI e l := by
 constructor
 ·intro h z hz
  cases hb : isE e z with
  | false => rfl
  | true => have := (idxP_ge (p := isE e) (l := l)).2 ⟨z, hz, hb⟩; omega
 ·intro h; rw [idxP_none h]; omega
theorem w59 (w : WorldP) (e : Int × Int) (h : okW w) : Contract Try.prog false 59 [.ro, .ro] [worldR w.1 w.2.1 w.2.2.1 w.2.2.2, .ag (eT e)] [.i .i64 (whereG e w.2.2.1 0).1, .i .i64 (whereG e w.2.2.1 0).2] [] := by
 refine mk_contract [] Try.func59 (c := Try.f59.body.get!) (by kernel_rfl) k59 r59 (of_decide_eq_true rfl) fun _ => ?_
 obtain ⟨h1, h2, ⟨h3, h4⟩, h5⟩ := h
 obtain ⟨g, f, ts, rs⟩ := w
 simp only at h1 h2 h3 h4 h5 ⊢
 unfold c59; simp
 refine twp_for ts.length (fun j s => s.t 2 = .pt [(4, 0)] 0 0 ∧ s.t 3 = .pt [(5, 0)] 0 0 ∧ s.t 6 = .i .i64 j ∧ noE e (ts.take j) ∧ s.H = lk [(1, []), (4, [.po true [.sl false 1 (g.map iT), .sl false 1 (f.map iT), .sl false 3 (ts.map tbT), .sl false 4 (rs.map vT)]]), (5, [.po true (eT e)])]) [] (by simp) ?_ ?_
 ·simp
 ·rintro j s hj ⟨q2, q3, q6, hn, qH⟩
  rw [nf_of qH]
  simp [q2, q3, q6]
  refine ⟨fun hlt => ?_, fun hge => ?_⟩
  ·have hw : IntKind.i64.wrap (j + 1) = j + 1 := wrap_id (by omega) (by omega)
   obtain ⟨t, ht⟩ := get_some hlt
   have hm := List.mem_of_getElem? ht
   have hl := (h4 t hm).2.1
   refine twp_for t.2.1.length (fun i s2 => s2.t 2 = .pt [(4, 0)] 0 0 ∧ s2.t 3 = .pt [(5, 0)] 0 0 ∧ s2.t 6 = .i .i64 j ∧ s2.t 7 = .i .i64 i ∧ noI e (t.2.1.take i) ∧ s2.H = lk [(1, []), (4, [.po true [.sl false 1 (g.map iT), .sl false 1 (f.map iT), .sl false 3 (ts.map tbT), .sl false 4 (rs.map vT)]]), (5, [.po true (eT e)])]) [] (by simp) ?_ ?_
   ·simp [q2, q3, q6]
   ·rintro i s2 hi ⟨p2, p3, p6, p7, hni, pH⟩
    rw [nf_of pH]
    simp [p2, p3, p6, p7]
    simp [ht]
    refine ⟨fun hlt2 => ?_, fun hge2 => ?_⟩
    ·have hwi : IntKind.i64.wrap (i + 1) = i + 1 := wrap_id (by omega) (by omega)
     obtain ⟨y, hy⟩ := get_some hlt2
     simp [ht, hy, p2, p3, p6, p7]
     by_cases hey : y = e
     ·subst hey
      have hx := idxP_at hy (by simp [isE]) hni
      simp [p2, p3, p6, p7]
      rw [whereG_at hn ht (by omega), hx]; simp
     ·have hne : (decide (y.1 = e.1) && decide (y.2 = e.2)) = false := by
       rw [Bool.eq_false_iff]; intro h
       simp only [Bool.and_eq_true, decide_eq_true_eq] at h
       exact hey (Prod.ext h.1 h.2)
      have hs : noI e (t.2.1.take (i + 1)) := by
       intro z hz
       rw [take_snoc hy] at hz
       rcases List.mem_append.1 hz with h | h
       ·exact hni z h
       ·simp at h; subst h; simp [isE, hey]
      simp [hne, hwi, p2, p3, p6, p7]
      exact ⟨hlt2, hs⟩
    ·obtain rfl : i = t.2.1.length := by omega
     rw [List.take_of_length_le (Nat.le_refl _)] at hni
     simp [p2, p3, p6, p7, hw]
     exact ⟨hlt, noE_snoc hn ht (idxP_take.2 hni)⟩
  ·obtain rfl : j = ts.length := by omega
   rw [List.take_of_length_le (Nat.le_refl _)] at hn
   rw [whereG_end hn]; simp
end Go.Proofs.YtmedelmfkciblaaT


namespace Go.Proofs.YtmedelmfkciblaaT
set_option linter.unusedVariables false
set_option linter.unusedSimpArgs false
open Go
abbrev StrP := Int × List ValP × List ValP
def ofK (k : Int) (v : ValP) : Prop := v.1 = k ∧ ValOkP v
instance (k : Int) (v : ValP) : Decidable (ofK k v) := by unfold ofK; infer_instance
def allOf (k : Int) (l : List ValP) : Prop := (∀ v ∈ l, ofK k v) ∧ l.length ≤ 200
instance (k : Int) (l : List ValP) : Decidable (allOf k l) := by unfold allOf; infer_instance
def StrOkP (k : Int) (s : StrP) : Prop := (0 ≤ s.1 ∧ s.1 ≤ 1000000000000) ∧ allOf k s.2.1 ∧ allOf k s.2.2
instance (k : Int) (s : StrP) : Decidable (StrOkP k s) := by unfold StrOkP; infer_instance
end Go.Proofs.YtmedelmfkciblaaT


namespace Go.Proofs.YtmedelmfkciblaaT
set_option linter.unusedVariables false
set_option linter.unusedSimpArgs false
open Go
def c115 : TCode := (.seq (.ops [⟨(some 4), 6, .mv (.c (.b false)), none, []⟩])
 (.seq (.seq (.ops [⟨(some 6), 8, .mv (.t 0), none, []⟩, ⟨(some 7), 9, .len false (.t 6), none, []⟩, ⟨(some 8), 10, .mv (.t 1), none, []⟩, ⟨(some 9), 11, .len false (.t 8), none, []⟩, ⟨(some 10), 12, .bin .neq (.t 7) (.t 9), none, []⟩])
 (.cond (.t 10)
 (.seq (.ops [⟨(some 4), 6, .mv (.c (.b false)), none, []⟩])
 .ret)
 .skip))
 (.seq (.seq (.ops [⟨(some 5), 7, .mv (.c (.i .i64 0)), none, []⟩])
 (.block 0 (.loop (.seq (.seq (.ops [⟨(some 11), 13, .mv (.t 5), none, []⟩, ⟨(some 12), 14, .mv (.t 0), none, []⟩, ⟨(some 13), 15, .len false (.t 12), none, []⟩, ⟨(some 14), 16, .bin .lss (.t 11) (.t 13), none, []⟩])
 (.cond (.t 14)
 .skip
 (.exit 0)))
 (.seq (.block 1 (.seq (.draw [⟨(some 17), 19, .mv (.t 0), none, []⟩, ⟨(some 18), 20, .mv (.t 5), none, []⟩, ⟨(some 19), 21, .iaddr 1 (.t 17) (.t 18), none, []⟩, ⟨(some 20), 22, .load false 1 (.t 19), none, []⟩, ⟨(some 21), 23, .mv (.t 1), none, []⟩, ⟨(some 22), 24, .mv (.t 5), none, []⟩, ⟨(some 23), 25, .iaddr 1 (.t 21) (.t 22), none, []⟩, ⟨(some 24), 26, .load false 1 (.t 23), none, []⟩, ⟨(some 25), 27, .bin .neq (.t 20) (.t 24), none, []⟩])
 (.cond (.t 25)
 (.seq (.ops [⟨(some 4), 6, .mv (.c (.b false)), none, []⟩])
 .ret)
 .skip)))
 (.ops [⟨(some 15), 17, .mv (.t 5), none, []⟩, ⟨(some 16), 18, .bin .add (.t 15) (.c (.i .i64 1)), none, []⟩, ⟨(some 5), 7, .mv (.t 16), none, []⟩]))))))
 (.seq (.ops [⟨(some 4), 6, .mv (.c (.b true)), none, []⟩])
 .ret))))
theorem k115 : compCode Try.prog Try.f115.ntmps Try.f115.body.get! = some c115 := by kernel_rfl
theorem r115 : resTmps Try.prog Try.f115.results.toList = some [.tmp 4] := by kernel_rfl
theorem w115 (a b : List Int) (ha : a.length ≤ 2^40) (hb : b.length ≤ 2^40) : Contract Try.prog false 115 [.ro, .ro] [.sl false 1 (a.map iT), .sl false 1 (b.map iT)] [.b (decide (a = b))] [] := by
 refine mk_contract [] Try.func115 (c := Try.f115.body.get!) (by kernel_rfl) k115 r115 (of_decide_eq_true rfl) fun _ => ?_
 unfold c115; simp
 refine ⟨fun h => ?_, fun h => ?_⟩
 ·refine twp_for a.length (fun j s => s.t 0 = .sl false 1 (a.map iT) ∧ s.t 1 = .sl false 1 (b.map iT) ∧ s.t 5 = .i .i64 j ∧ a.take j = b.take j ∧ s.H = lk [(1, [])]) [] (by simp) ?_ ?_
  ·simp
  ·rintro j s hj ⟨q0, q1, q5, hab, qH⟩
   rw [nf_of qH]
   simp [q0, q1, q5]
   refine ⟨fun hlt => ?_, fun hge => ?_⟩
   ·have hw : IntKind.i64.wrap (j + 1) = j + 1 := wrap_id (by omega) (by omega)
    obtain ⟨x, hx⟩ := get_some hlt
    obtain ⟨y, hy⟩ := get_some (l := b) (j := j) (by omega)
    simp [hx, hy, hw, q0, q1, q5]
    refine ⟨fun hxy => ⟨hlt, by rw [take_snoc hx, take_snoc hy, hab, hxy]⟩, fun hxy hab => hxy (by subst hab; simpa [hx] using hy)⟩
   ·obtain rfl : j = a.length := by omega
    rw [List.take_of_length_le (Nat.le_refl _), List.take_of_length_le (by omega)] at hab
    exact hab
 ·rintro rfl; exact h rfl
end Go.Proofs.YtmedelmfkciblaaT


namespace Go.Proofs.YtmedelmfkciblaaT
set_option linter.unusedVariables false
set_option linter.unusedSimpArgs false
open Go
def c86 : TCode := (.seq (.ops [⟨(some 3), 5, .box 3 (.t 0), none, []⟩, ⟨(some 5), 7, .box 4 (.t 2), none, []⟩, ⟨(some 6), 8, .mv (.c (.b false)), none, []⟩])
 (.seq (.draw [⟨(some 7), 9, .mv (.t 1), none, []⟩, ⟨(some 8), 10, .faddr 0 1 (.t 3), none, []⟩, ⟨(some 9), 11, .load false 1 (.t 8), none, []⟩, ⟨(some 10), 12, .len false (.t 9), none, []⟩, ⟨(some 11), 13, .bin .sub (.t 10) (.c (.i .i64 1)), none, []⟩, ⟨(some 12), 14, .call 87 [((.t 7), 0), ((.c (.i .i64 0)), 0), ((.t 11), 0)], none, []⟩, ⟨(some 13), 15, .mv (.t 12), none, []⟩, ⟨(some 14), 16, .load true 4 (.t 5), (some (13, true)), []⟩, ⟨(some 15), 17, .call 146 [((.t 14), 0)], (some (13, true)), []⟩, ⟨(some 16), 18, .pick (.t 13) (.t 15) (.c (.b false)), none, []⟩, ⟨(some 17), 19, .mv (.t 16), none, []⟩, ⟨(some 18), 20, .faddr 0 1 (.t 5), (some (17, true)), []⟩, ⟨(some 19), 21, .load false 1 (.t 18), (some (17, true)), []⟩, ⟨(some 20), 22, .faddr 0 1 (.t 3), (some (17, true)), []⟩, ⟨(some 21), 23, .load false 1 (.t 20), (some (17, true)), []⟩, ⟨(some 22), 24, .mv (.t 1), (some (17, true)), []⟩, ⟨(some 23), 25, .iaddr 2 (.t 21) (.t 22), (some (17, true)), []⟩, ⟨(some 24), 26, .faddr 1 1 (.t 23), (some (17, true)), []⟩, ⟨(some 25), 27, .load false 1 (.t 24), (some (17, true)), []⟩, ⟨(some 26), 28, .bin .eql (.t 19) (.t 25), (some (17, true)), []⟩, ⟨(some 27), 29, .pick (.t 17) (.t 26) (.c (.b false)), none, []⟩, ⟨(some 6), 8, .mv (.t 27), none, []⟩])
 .ret))
theorem k86 : compCode Try.prog Try.f86.ntmps Try.f86.body.get! = some c86 := by kernel_rfl
theorem r86 : resTmps Try.prog Try.f86.results.toList = some [.tmp 6] := by kernel_rfl
abbrev DeclsP := List (ByteArray × Int)
def flatR (ts : List TableP) : List (Int × Int) := ts.flatMap (·.2.1)
def atsR (a : List (Int × Int)) : List Int := a.map (·.1)
def rowsG (g f : List Int) (rs : List (Int × Int)) : Prop := (∀ e ∈ rs, liveP g f e.1 e.2) ∧ (atsR rs).Nodup
def rowsP (g f : List Int) (rs : List (Int × Int)) : Prop := rowsG g f rs ∧ (rs.length : Int) = g.length - f.length
noncomputable instance (g f : List Int) (rs : List (Int × Int)) : Decidable (rowsP g f rs) := Classical.propDecidable _
end Go.Proofs.YtmedelmfkciblaaT


namespace Go.Proofs.YtmedelmfkciblaaT
set_option linter.unusedVariables false
set_option linter.unusedSimpArgs false
open Go
def fitP (c : DeclsP) (k : Int) (v : ValP) : Prop := (0 ≤ k ∧ k ≤ (c.length : Int) - 1) ∧ ValOkP v ∧ (c[k.toNat]?).map (·.2) = some v.1
noncomputable instance (c : DeclsP) (k : Int) (v : ValP) : Decidable (fitP c k v) := Classical.propDecidable _
theorem w86 (c r e : DeclsP) (k : Int) (v : ValP) (hv : valOkF v) (hc : c.length ≤ 2^40) : Contract Try.prog false 86 [.ro, .ro, .ro] [regR c r e, .i .i64 k, valV v] [.b (decide (fitP c k v))] [] := by
 refine mk_contract [] Try.func86 (c := Try.f86.body.get!) (by kernel_rfl) k86 r86 (of_decide_eq_true rfl) fun _ => ?_
 have hw : IntKind.i64.wrap ((c.length : Int) - 1) = c.length - 1 := wrap_id (by omega) (by omega)
 unfold c86; unfold regR valV; simp [hw]
 by_cases h1 : 0 ≤ k ∧ k ≤ (c.length : Int) - 1
 ·obtain ⟨d, hd⟩ : ∃ d, c[k.toNat]? = some d := get_some (by omega)
  refine callW_ms [.ro, .ro, .ro] ?_
  simp
  refine callX_of ((w87 _ _ _).t h1) (by simp) ?_
  simp
  by_cases h2 : ValOkP v
  ·refine callW_ms [.ro] ?_
   simp [valV]
   refine callX_of ((w146 v hv).t h2) (by simp) ?_
   simp [hd, h1.1]
   simp [fitP, h1, h2, hd]
   exact ⟨fun h => h.symm, fun h => h.symm⟩
  ·refine callW_ms [.ro] ?_
   simp [valV]
   refine callX_of ((w146 v hv).f h2) (by simp) ?_
   simp
   simp [fitP, h2]
 ·refine callW_ms [.ro, .ro, .ro] ?_
  simp
  refine callX_of ((w87 _ _ _).f h1) (by simp) ?_
  simp
  have : ¬ fitP c k v := fun h => h1 h.1
  simp [this]
def colG (c : DeclsP) (t : TableP) (i : Nat) : Prop := ∀ x vs, t.1[i]? = some x → t.2.2[i]? = some vs → vs.length = t.2.1.length ∧ ∀ v ∈ vs, fitP c x v
def tabP (c : DeclsP) (t : TableP) : Prop := colsP t.1 c.length ∧ t.2.2.length = t.1.length ∧ ∀ i, colG c t i
noncomputable instance (c : DeclsP) (t : TableP) : Decidable (tabP c t) := Classical.propDecidable _
def stabP (c : DeclsP) (t : TableP) : Prop := (t.1.length ≤ 12 ∧ t.2.1.length ≤ 2000) ∧ tabP c t
noncomputable instance (c : DeclsP) (t : TableP) : Decidable (stabP c t) := Classical.propDecidable _
end Go.Proofs.YtmedelmfkciblaaT


namespace Go.Proofs.YtmedelmfkciblaaT
set_option linter.unusedVariables false
set_option linter.unusedSimpArgs false
open Go
def isT (cols : List Int) (t : TableP) : Bool := decide (t.1 = cols)
def noT (cols : List Int) (ts : List TableP) : Prop := ∀ y ∈ ts, isT cols y = false
theorem noT_nil (cols : List Int) : noT cols [] := fun _ h => by cases h
theorem noT_snoc {cols : List Int} {ts : List TableP} {t : TableP} (h : noT cols ts) (ht : isT cols t = false) : noT cols (ts ++ [t]) := fun x hx => by
 rcases List.mem_append.1 hx with hx | hx
 ·exact h x hx
 ·rw [List.mem_singleton.1 hx]; exact ht
def tabIx (ts : List TableP) (cols : List Int) : Int := idxP (isT cols) ts
def resP (r : DeclsP) (rs : List ValP) : Prop := ∀ (i : Nat) (v : ValP) (d : ByteArray × Int), rs[i]? = some v → r[i]? = some d → ofK d.2 v
def WorldOkP (c r e : DeclsP) (w : WorldP) : Prop := (RegOkP c r e ∧ EntsOkP w.1 w.2.1 ∧ w.2.2.1.length ≤ 40 ∧ w.2.2.2.length = r.length) ∧ resP r w.2.2.2 ∧ (∀ t ∈ w.2.2.1, tabP c t) ∧ (w.2.2.1.map (·.1)).Nodup ∧ rowsP w.1 w.2.1 (flatR w.2.2.1)
noncomputable instance (c r e : DeclsP) (w : WorldP) : Decidable (WorldOkP c r e w) := Classical.propDecidable _
end Go.Proofs.YtmedelmfkciblaaT


namespace Go.Proofs.YtmedelmfkciblaaT
set_option linter.unusedVariables false
set_option linter.unusedSimpArgs false
open Go
end Go.Proofs.YtmedelmfkciblaaT


namespace Go.Proofs.YtmedelmfkciblaaT
set_option linter.unusedVariables false
set_option linter.unusedSimpArgs false
open Go
def c100 : TCode := (.seq (.ops [⟨(some 4), 6, .mv (.c (.i .i64 0)), none, []⟩])
 (.seq (.seq (.ops [⟨(some 5), 7, .mv (.c (.i .i64 0)), none, []⟩])
 (.block 0 (.loop (.seq (.seq (.ops [⟨(some 6), 8, .mv (.t 5), none, []⟩, ⟨(some 7), 9, .mv (.t 0), none, []⟩, ⟨(some 8), 10, .len false (.t 7), none, []⟩, ⟨(some 9), 11, .bin .lss (.t 6) (.t 8), none, []⟩])
 (.cond (.t 9)
 .skip
 (.exit 0)))
 (.seq (.block 1 (.seq (.ops [⟨(some 12), 14, .mv (.t 0), none, []⟩, ⟨(some 13), 15, .mv (.t 5), none, []⟩, ⟨(some 14), 16, .iaddr 1 (.t 12) (.t 13), none, []⟩, ⟨(some 15), 17, .load false 1 (.t 14), none, []⟩, ⟨(some 16), 18, .mv (.t 1), none, []⟩, ⟨(some 17), 19, .bin .eql (.t 15) (.t 16), none, []⟩])
 (.cond (.t 17)
 (.seq (.ops [⟨(some 18), 20, .mv (.t 5), none, []⟩, ⟨(some 4), 6, .mv (.t 18), none, []⟩])
 .ret)
 .skip)))
 (.ops [⟨(some 10), 12, .mv (.t 5), none, []⟩, ⟨(some 11), 13, .bin .add (.t 10) (.c (.i .i64 1)), none, []⟩, ⟨(some 5), 7, .mv (.t 11), none, []⟩]))))))
 (.seq (.ops [⟨(some 4), 6, .mv (.c (.i .i64 (-1))), none, []⟩])
 .ret)))
theorem k100 : compCode Try.prog Try.f100.ntmps Try.f100.body.get! = some c100 := by kernel_rfl
theorem r100 : resTmps Try.prog Try.f100.results.toList = some [.tmp 4] := by kernel_rfl
theorem w100 (l : List Int) (x : Int) (hl : l.length ≤ 2^40) : Contract Try.prog false 100 [.ro, .ro] [.sl false 1 (l.map iT), .i .i64 x] [.i .i64 (idxF l x)] [] := by
 refine mk_contract [] Try.func100 (c := Try.f100.body.get!) (by kernel_rfl) k100 r100 (of_decide_eq_true rfl) fun _ => ?_
 unfold c100; simp
 refine twp_for l.length (fun j s => s.t 0 = .sl false 1 (l.map iT) ∧ s.t 1 = .i .i64 x ∧ s.t 5 = .i .i64 j ∧ x ∉ l.take j ∧ s.H = lk [(1, [])]) [] (by simp) ?_ ?_
 ·simp
 ·rintro j s hj ⟨q0, q1, q5, hn, qH⟩
  rw [nf_of qH]
  simp [q0, q1, q5]
  refine ⟨fun hlt => ?_, fun hge => ?_⟩
  ·have hw : IntKind.i64.wrap (j + 1) = j + 1 := wrap_id (by omega) (by omega)
   obtain ⟨y, hy⟩ := get_some hlt
   simp [hy, hw, q0, q1, q5]
   refine ⟨fun hxy => ?_, fun hxy => ⟨hlt, ?_⟩⟩
   ·subst hxy; exact (idxF_at hy hn).symm
   ·rw [take_snoc hy]; simp; exact ⟨hn, fun h => hxy h.symm⟩
  ·obtain rfl : j = l.length := by omega
   rw [List.take_of_length_le (Nat.le_refl _)] at hn
   simp [idxF, hn]
theorem where_row {e : Int × Int} : ∀ {ts : List TableP} (i : Nat), e ∈ flatR ts → ∃ (j k : Nat) (t : TableP), ts[j]? = some t ∧ t.2.1[k]? = some e ∧ whereG e ts i = (((i + j : Nat) : Int), (k : Int))
 | [], i, h => by cases h
 | t :: ts, i, h => by
  by_cases hp : 0 ≤ idxP (isE e) t.2.1
  ·obtain ⟨k, hk⟩ : ∃ k : Nat, idxP (isE e) t.2.1 = k := ⟨(idxP (isE e) t.2.1).toNat, by omega⟩
   refine ⟨0, k, t, rfl, ?_, ?_⟩
   ·unfold idxP at hk
    split at hk
    ·rename_i m hm
     have : m = k := by omega
     subst this
     rw [List.findIdx?_eq_some_iff_getElem] at hm
     obtain ⟨hlt, hq, -⟩ := hm
     rw [List.getElem?_eq_getElem hlt]
     simp [isE] at hq
     rw [hq]
    ·omega
   ·simp only [whereG, if_pos hp, Nat.add_zero]
    rw [hk]
  ·have h2 : e ∈ flatR ts := by
    have h3 : e ∈ t.2.1 ∨ e ∈ flatR ts := by simpa [flatR] using h
    rcases h3 with h3 | h3
    ·exact absurd (idxP_ge.2 ⟨e, h3, by simp [isE]⟩) hp
    ·exact h3
   obtain ⟨j, k, t2, h4, h5, h6⟩ := where_row (i + 1) h2
   refine ⟨j + 1, k, t2, by simpa using h4, h5, ?_⟩
   simp only [whereG, if_neg hp, h6]
   congr 2; omega
theorem idx_lt {l : List Int} {x : Int} (h : 0 ≤ idxF l x) : (idxF l x).toNat < l.length := by
 have hm := (idxF_ge _ _).1 h
 have := List.idxOf_lt_length_of_mem hm
 unfold idxF
 rw [if_pos hm]
 omega
end Go.Proofs.YtmedelmfkciblaaT


namespace Go.Proofs.YtmedelmfkciblaaT
set_option linter.unusedVariables false
set_option linter.unusedSimpArgs false
open Go
section
variable {α β : Type} {f : Int → α → β} {n : α → Nat}
end
end Go.Proofs.YtmedelmfkciblaaT


namespace Go.Proofs.YtmedelmfkciblaaT
set_option linter.unusedVariables false
set_option linter.unusedSimpArgs false
open Go
def c64 : TCode := (.seq (.ops [⟨(some 1), 3, .box 3 (.t 0), none, []⟩, ⟨(some 2), 4, .box 4 (.c (.ag [(.sl true 1 []), (.sl true 1 []), (.sl true 3 []), (.sl true 4 [])])), none, []⟩])
 (.seq (.seq (.ops [⟨(some 5), 7, .load true 3 (.t 1), none, []⟩, ⟨(some 6), 8, .call 84 [((.t 5), 0)], none, []⟩, ⟨(some 7), 9, .un .not (.t 6), none, []⟩])
 (.cond (.t 7)
 (.seq (.ops [⟨(some 8), 10, .build [(.sl true 1 []), (.sl true 1 []), (.sl true 3 []), (.sl true 4 [])] [], none, []⟩, ⟨none, 1002001, .store 4 (.t 2) (.t 8), none, []⟩])
 .ret)
 .skip))
 (.seq (.ops [⟨(some 9), 11, .build [(.sl true 1 []), (.sl true 1 []), (.sl true 3 []), (.sl true 4 [])] [], none, []⟩, ⟨(some 3), 5, .box 4 (.c (.ag [(.sl true 1 []), (.sl true 1 []), (.sl true 3 []), (.sl true 4 [])])), none, []⟩, ⟨none, 1003002, .store 4 (.t 3) (.t 9), none, []⟩])
 (.seq (.seq (.ops [⟨(some 4), 6, .mv (.c (.i .i64 0)), none, []⟩])
 (.block 0 (.loop (.seq (.seq (.ops [⟨(some 10), 12, .mv (.t 4), none, []⟩, ⟨(some 11), 13, .faddr 1 1 (.t 1), none, []⟩, ⟨(some 12), 14, .load false 1 (.t 11), none, []⟩, ⟨(some 13), 15, .len false (.t 12), none, []⟩, ⟨(some 14), 16, .bin .lss (.t 10) (.t 13), none, []⟩])
 (.cond (.t 14)
 .skip
 (.exit 0)))
 (.seq (.block 1 (.draw [⟨(some 17), 19, .faddr 3 1 (.t 3), none, []⟩, ⟨(some 18), 20, .load false 1 (.t 17), none, []⟩, ⟨(some 19), 21, .faddr 1 1 (.t 1), none, []⟩, ⟨(some 20), 22, .load false 1 (.t 19), none, []⟩, ⟨(some 21), 23, .mv (.t 4), none, []⟩, ⟨(some 22), 24, .iaddr 2 (.t 20) (.t 21), none, []⟩, ⟨(some 23), 25, .faddr 1 1 (.t 22), none, []⟩, ⟨(some 24), 26, .load false 1 (.t 23), none, []⟩, ⟨(some 25), 27, .call 124 [((.t 24), 0)], none, [0, 1]⟩, ⟨(some 26), 28, .bslice 4 1 [(.i .i64 0), (.i .i64 0), (.f 0), (.f 0)] [(0, (.t 25))], none, [0, 1]⟩, ⟨(some 27), 29, .app 4 32 (.t 18) (.t 26), none, []⟩, ⟨(some 28), 30, .faddr 3 1 (.t 3), none, []⟩, ⟨none, 1007012, .store 1 (.t 28) (.t 27), none, []⟩]))
 (.ops [⟨(some 15), 17, .mv (.t 4), none, []⟩, ⟨(some 16), 18, .bin .add (.t 15) (.c (.i .i64 1)), none, []⟩, ⟨(some 4), 6, .mv (.t 16), none, []⟩]))))))
 (.seq (.ops [⟨(some 29), 31, .load true 4 (.t 3), none, []⟩, ⟨none, 1008001, .store 4 (.t 2) (.t 29), none, []⟩])
 .ret)))))
theorem k64 : compCode Try.prog Try.f64.ntmps Try.f64.body.get! = some c64 := by kernel_rfl
theorem r64 : resTmps Try.prog Try.f64.results.toList = some [.cell 2 true 4] := by kernel_rfl
def newRes (l : List (ByteArray × Int)) : List ValP := l.map fun d => zeroV d.2
@[simp] theorem newRes_nil : newRes [] = [] := rfl
@[simp] theorem newRes_len (l : List (ByteArray × Int)) : (newRes l).length = l.length := by simp [newRes]
noncomputable def newW (c r e : List (ByteArray × Int)) : WorldP := ([], [], [], if RegOkP c r e then newRes r else [])
theorem newW_t {c r e : List (ByteArray × Int)} (h : RegOkP c r e) : newW c r e = ([], [], [], newRes r) := by unfold newW; rw [if_pos h]
theorem newW_f {c r e : List (ByteArray × Int)} (h : ¬ RegOkP c r e) : newW c r e = ([], [], [], []) := by unfold newW; rw [if_neg h]
theorem zmap_at {r : List (ByteArray × Int)} {d : ByteArray × Int} {j : Nat} (h : r[j]? = some d) : newRes (r.take (j + 1)) = newRes (r.take j) ++ [zeroV d.2] := by
 rw [take_snoc h]; simp [newRes]
theorem w64 (c r e : List (ByteArray × Int)) (hc : c.length ≤ 2^40) (hr : r.length ≤ 2^40) (he : e.length ≤ 2^40) : Contract Try.prog false 64 [.ro] [regR c r e] [worldO (newW c r e).1 (newW c r e).2.1 (newW c r e).2.2.1 (newW c r e).2.2.2] [] := by
 refine mk_contract [] Try.func64 (c := Try.f64.body.get!) (by kernel_rfl) k64 r64 (of_decide_eq_true rfl) fun _ => ?_
 unfold c64; unfold regR; simp
 by_cases hR : RegOkP c r e
 ·rw [newW_t hR]
  refine callW_ms [.ro] ?_
  simp [regR]
  refine callX_of ((w84 c r e hc hr he).t hR) (by simp) ?_
  simp
  refine twp_for r.length (fun j s => s.t 1 = .pt [(3, 0)] 0 0 ∧ s.t 2 = .pt [(4, 0)] 0 0 ∧ s.t 3 = .pt [(5, 0)] 0 0 ∧ s.t 4 = .i .i64 j ∧ s.H = lk [(1, []), (3, [.po true [.sl false 2 (c.map dT), .sl false 2 (r.map dT), .sl false 2 (e.map dT)]]), (4, [.po true [.sl true 1 [], .sl true 1 [], .sl true 3 [], .sl true 4 []]]), (5, [.po true [.sl true 1 [], .sl true 1 [], .sl true 3 [], .sl true 4 ((newRes (r.take j)).map vT)]])]) [28, 29] (by simp) ?_ ?_
  ·simp
  ·rintro j s hj ⟨q1, q2, q3, q4, qH⟩
   rw [nf_of qH]
   simp [q1, q2, q3, q4]
   refine ⟨fun hlt => ?_, fun hge => ?_⟩
   ·have hw : IntKind.i64.wrap (j + 1) = j + 1 := wrap_id (by omega) (by omega)
    obtain ⟨d, hd⟩ := get_some hlt
    have hz := zmap_at hd
    simp [hd, hw, q1, q2, q3, q4]
    refine callW_ms [.ro] ?_
    simp
    refine callX_of (w124 d.2) (by simp) ?_
    simp [valV, hw, q1, q2, q3, q4, hz]
    exact ⟨by omega, hlt⟩
   ·obtain rfl : j = r.length := by omega
    simp [q1, q2, q3, q4]
 ·rw [newW_f hR]
  refine callW_ms [.ro] ?_
  simp [regR]
  refine callX_of ((w84 c r e hc hr he).f hR) (by simp) ?_
  simp
end Go.Proofs.YtmedelmfkciblaaT


namespace Go.Proofs.YtmedelmfkciblaaT
set_option linter.unusedVariables false
set_option linter.unusedSimpArgs false
open Go
def c180 : TCode := (.seq (.ops [⟨(some 2), 4, .box 4 (.t 0), none, []⟩, ⟨(some 3), 5, .box 2 (.t 1), none, []⟩, ⟨(some 4), 6, .box 4 (.c (.ag [(.sl true 1 []), (.sl true 1 []), (.sl true 3 []), (.sl true 4 [])])), none, []⟩, ⟨(some 5), 7, .mv (.c (.i .i64 0)), none, []⟩])
 (.seq (.seq (.ops [⟨(some 8), 10, .faddr 0 2 (.t 2), none, []⟩, ⟨(some 9), 11, .load true 2 (.t 8), none, []⟩, ⟨(some 10), 12, .load true 2 (.t 3), none, []⟩, ⟨(some 11), 13, .call 215 [((.t 9), 0), ((.t 10), 0)], none, []⟩, ⟨(some 12), 14, .un .not (.t 11), none, []⟩])
 (.cond (.t 12)
 (.seq (.ops [⟨(some 13), 15, .load true 4 (.t 2), none, []⟩, ⟨none, 1002001, .store 4 (.t 4) (.t 13), none, []⟩, ⟨(some 5), 7, .mv (.c (.i .i64 2)), none, []⟩])
 .ret)
 .skip))
 (.seq (.ops [⟨(some 15), 17, .load true 4 (.t 2), none, []⟩, ⟨(some 16), 18, .load true 2 (.t 3), none, []⟩, ⟨(some 17), 19, .call 59 [((.t 15), 0), ((.t 16), 0)], none, []⟩, ⟨(some 14), 16, .mv (.t 17), none, []⟩, ⟨(some 18), 20, .ext 0 (.t 14), none, []⟩, ⟨(some 19), 21, .ext 1 (.t 14), none, []⟩, ⟨(some 6), 8, .mv (.t 18), none, []⟩, ⟨(some 7), 9, .mv (.t 19), none, []⟩])
 (.seq (.ops [⟨(some 20), 22, .load true 4 (.t 2), none, []⟩, ⟨(some 21), 23, .mv (.t 6), none, []⟩, ⟨(some 22), 24, .mv (.t 7), none, []⟩, ⟨(some 23), 25, .call 220 [((.t 20), 0), ((.t 21), 0), ((.t 22), 0)], none, []⟩, ⟨none, 1004004, .store 4 (.t 2) (.t 23), none, []⟩])
 (.seq (.ops [⟨(some 24), 26, .faddr 0 2 (.t 2), none, []⟩, ⟨(some 25), 27, .load true 2 (.t 24), none, []⟩, ⟨(some 26), 28, .load true 2 (.t 3), none, []⟩, ⟨(some 27), 29, .call 221 [((.t 25), 0), ((.t 26), 0)], none, []⟩, ⟨(some 28), 30, .faddr 0 2 (.t 2), none, []⟩, ⟨none, 1005005, .store 2 (.t 28) (.t 27), none, []⟩])
 (.seq (.ops [⟨(some 29), 31, .load true 4 (.t 2), none, []⟩, ⟨none, 1006001, .store 4 (.t 4) (.t 29), none, []⟩, ⟨(some 5), 7, .mv (.c (.i .i64 0)), none, []⟩])
 .ret))))))
theorem k180 : compCode Try.prog Try.f180.ntmps Try.f180.body.get! = some c180 := by kernel_rfl
theorem r180 : resTmps Try.prog Try.f180.results.toList = some [.cell 4 true 4, .tmp 5] := by kernel_rfl
theorem split_at {α : Type} {l : List α} {j : Nat} {t : α} (h : l[j]? = some t) : l = l.take j ++ t :: l.drop (j + 1) ∧ (l.take j).length = j := by
 have hl := (List.getElem?_eq_some_iff.1 h).1
 refine ⟨?_, by simp; omega⟩
 have h2 : l.drop j = t :: l.drop (j + 1) := by rw [List.drop_eq_getElem_cons hl, (List.getElem?_eq_some_iff.1 h).2]
 rw [← h2, List.take_append_drop]
set_option maxRecDepth 100000 in
theorem w180 (g f : List Int) (A B : List TableP) (t : TableP) (rs : List ValP) (e : Int × Int) (k : Nat) (hg : g.length ≤ 2^36) (hf : f.length ≤ 2^36) (hok : okW (g, f, A ++ t :: B, rs)) (hgn : ∀ x ∈ g, 0 ≤ x ∧ x ≤ 1000000) (hlv : liveP g f e.1 e.2) (hwj : whereG e (A ++ t :: B) 0 = ((A.length : Int), (k : Int))) (hA : A.length ≤ 2^36) (hB : B.length ≤ 2^36) (hkt : okT t) (hv : ∀ v ∈ t.2.2, v.length = t.2.1.length) (hk : k < t.2.1.length) : Contract Try.prog false 180 [.own, .ro] [worldO g f (A ++ t :: B) rs, .ag (eT e)] [worldO (giveG g e.1 e.2) (f ++ [e.1]) (A ++ leaveT t k :: B) rs, .i .i64 0] [none, none, none, none] := by
 refine mk_contract [none, none, none, none] Try.func180 (c := Try.f180.body.get!) (by kernel_rfl) k180 r180 (of_decide_eq_true rfl) fun _ => ?_
 have hW := w59 (g, f, A ++ t :: B, rs) e hok
 simp only [hwj] at hW
 have hL := w220 g f A B t rs k hA hB hk hkt.2.1 hkt.2.2.1 hv
 have hG := w221 g f e.1 e.2 (by omega) hlv.1.1 hlv.2.1 (hgn _ (List.mem_of_getElem? hlv.2.1))
 have hlive := (w215 g f e.1 e.2 (by omega) (by omega)).t hlv
 simp only [entsO, entsR, entT] at hG hlive
 generalize A ++ t :: B = ts at *
 generalize A ++ leaveT t k :: B = ts2 at *
 unfold c180; simp
 refine callW_ms [.ro, .ro] ?_
 simp
 refine callX_of hlive (by simp) ?_
 simp
 refine callW_ms [.ro, .ro] ?_
 simp
 refine callX_of hW (by simp) ?_
 simp
 refine callW_ms [.own, .ro, .ro] ?_
 simp
 refine callX_of hL (by simp) ?_
 simp
 refine callW_ms [.own, .ro] ?_
 simp
 refine callX_of hG (by simp) ?_
 simp
theorem W180d (g f : List Int) (ts : List TableP) (rs : List ValP) (e : Int × Int) (hg : g.length ≤ 2^36) (hf : f.length ≤ 2^36) (hlv : ¬ liveP g f e.1 e.2) : Contract Try.prog false 180 [.own, .ro] [worldO g f ts rs, .ag (eT e)] [worldO g f ts rs, .i .i64 2] [none, none, none, none] := by
 refine mk_contract [none, none, none, none] Try.func180 (c := Try.f180.body.get!) (by kernel_rfl) k180 r180 (of_decide_eq_true rfl) fun _ => ?_
 have hlive := (w215 g f e.1 e.2 (by omega) (by omega)).f hlv
 simp only [entsR, entT] at hlive
 unfold c180; simp
 refine callW_ms [.ro, .ro] ?_
 simp
 refine callX_of hlive (by simp) ?_
 simp
end Go.Proofs.YtmedelmfkciblaaT


namespace Go.Proofs.YtmedelmfkciblaaT
set_option linter.unusedVariables false
set_option linter.unusedSimpArgs false
open Go
def c39 : TCode := (.seq (.ops [⟨(some 2), 4, .mv (.c (.i .i64 0)), none, []⟩])
 (.seq (.ops [⟨(some 3), 5, .mv (.c (.i .i64 0)), none, []⟩])
 (.seq (.seq (.ops [⟨(some 4), 6, .mv (.c (.i .i64 0)), none, []⟩])
 (.block 0 (.loop (.seq (.seq (.ops [⟨(some 5), 7, .mv (.t 4), none, []⟩, ⟨(some 6), 8, .mv (.t 0), none, []⟩, ⟨(some 7), 9, .len false (.t 6), none, []⟩, ⟨(some 8), 10, .bin .lss (.t 5) (.t 7), none, []⟩])
 (.cond (.t 8)
 .skip
 (.exit 0)))
 (.seq (.block 1 (.seq (.ops [⟨(some 11), 13, .mv (.t 0), none, []⟩, ⟨(some 12), 14, .mv (.t 4), none, []⟩, ⟨(some 13), 15, .iaddr 9 (.t 11) (.t 12), none, []⟩, ⟨(some 14), 16, .faddr 0 1 (.t 13), none, []⟩, ⟨(some 15), 17, .load false 1 (.t 14), none, []⟩, ⟨(some 16), 18, .bin .eql (.t 15) (.c (.i .i64 1)), none, []⟩])
 (.cond (.t 16)
 (.ops [⟨(some 17), 19, .mv (.t 3), none, []⟩, ⟨(some 18), 20, .bin .add (.t 17) (.c (.i .i64 1)), none, []⟩, ⟨(some 3), 5, .mv (.t 18), none, []⟩])
 .skip)))
 (.ops [⟨(some 9), 11, .mv (.t 4), none, []⟩, ⟨(some 10), 12, .bin .add (.t 9) (.c (.i .i64 1)), none, []⟩, ⟨(some 4), 6, .mv (.t 10), none, []⟩]))))))
 (.seq (.ops [⟨(some 19), 21, .mv (.t 3), none, []⟩, ⟨(some 2), 4, .mv (.t 19), none, []⟩])
 .ret))))
theorem k39 : compCode Try.prog Try.f39.ntmps Try.f39.body.get! = some c39 := by kernel_rfl
theorem r39 : resTmps Try.prog Try.f39.results.toList = some [.tmp 2] := by kernel_rfl
def c38 : TCode := (.seq (.ops [⟨(some 2), 4, .mv (.c (.i .i64 0)), none, []⟩])
 (.seq (.ops [⟨(some 3), 5, .mv (.c (.i .i64 0)), none, []⟩])
 (.seq (.seq (.ops [⟨(some 6), 8, .mv (.t 0), none, []⟩, ⟨(some 7), 9, .len false (.t 6), none, []⟩, ⟨(some 8), 10, .mv (.c (.i .i64 0)), none, []⟩])
 (.block 0 (.loop (.seq (.ops [⟨(some 9), 11, .bin .lss (.t 8) (.t 7), none, []⟩])
 (.seq (.cond (.t 9)
 .skip
 (.exit 0))
 (.seq (.block 1 (.seq (.ops [⟨(some 10), 12, .iaddr 9 (.t 6) (.t 8), none, []⟩, ⟨(some 11), 13, .load true 9 (.t 10), none, []⟩, ⟨(some 5), 7, .box 9 (.c (.ag [(.i .i64 0), (.i .i64 0), (.i .i64 0), (.i .i64 0), (.i .i64 0), (.i .i64 0), (.f 0), (.f 0), (.sl true 5 [])])), none, []⟩, ⟨none, 1004003, .store 9 (.t 5) (.t 11), none, []⟩])
 (.seq (.ops [⟨(some 12), 14, .faddr 0 1 (.t 5), none, []⟩, ⟨(some 13), 15, .load false 1 (.t 12), none, []⟩, ⟨(some 14), 16, .bin .eql (.t 13) (.c (.i .i64 1)), none, []⟩])
 (.cond (.t 14)
 (.ops [⟨(some 15), 17, .mv (.t 3), none, []⟩, ⟨(some 16), 18, .bin .add (.t 15) (.c (.i .i64 1)), none, []⟩, ⟨(some 3), 5, .mv (.t 16), none, []⟩])
 .skip))))
 (.ops [⟨(some 17), 19, .bin .add (.t 8) (.c (.i .i64 1)), none, []⟩, ⟨(some 8), 10, .mv (.t 17), none, []⟩])))))))
 (.seq (.ops [⟨(some 18), 20, .mv (.t 3), none, []⟩, ⟨(some 2), 4, .mv (.t 18), none, []⟩])
 .ret))))
theorem k38 : compCode Try.prog Try.f38.ntmps Try.f38.body.get! = some c38 := by kernel_rfl
theorem r38 : resTmps Try.prog Try.f38.results.toList = some [.tmp 2] := by kernel_rfl
abbrev CellP := Int × ValP
@[simp] def clT (x : Int × ValP) : List TV := .i .i64 x.1 :: vT x.2
@[simp] theorem fzL_clT (x : Int × ValP) : fzL (clT x) = clT x := rfl
@[simp] theorem fzLL_clT (l : List (Int × ValP)) : fzLL (l.map clT) = l.map clT := fzLL_map fzL_clT l
@[simp] theorem noROLL_clT (l : List (Int × ValP)) : noROLL (l.map clT) = true := noROLL_map (fun _ => rfl) l
abbrev CmdP := Int × (Int × Int) × Int × ValP × List CellP
@[simp] def cmT (x : CmdP) : List TV := .i .i64 x.1 :: (eT x.2.1 ++ .i .i64 x.2.2.1 :: (vT x.2.2.2.1 ++ [.sl false 5 (x.2.2.2.2.map clT)]))
@[simp] def cmO (x : CmdP) : List TV := [.i .i64 x.1, .i .i64 x.2.1.1, .i .i64 x.2.1.2, .i .i64 x.2.2.1, .i .i64 x.2.2.2.1.1, .i .i64 x.2.2.2.1.2.1, .f x.2.2.2.1.2.2.1, .f x.2.2.2.1.2.2.2, .sl true 5 (x.2.2.2.2.map clT)]
@[simp] theorem fzL_cmT (x : CmdP) : fzL (cmT x) = cmT x := by simp
@[simp] theorem fzL_cmO (x : CmdP) : fzL (cmO x) = cmT x := by simp
@[simp] theorem fzLL_cmT (l : List CmdP) : fzLL (l.map cmT) = l.map cmT := fzLL_map fzL_cmT l
@[simp] theorem fzLL_cmO (l : List CmdP) : fzLL (l.map cmO) = l.map cmT := fzLL_mapR fzL_cmO l
@[simp] theorem noROLL_cmO (l : List CmdP) : noROLL (l.map cmO) = true := noROLL_map (fun _ => by simp [noROL, noRO]) l
@[simp] theorem noref_cmT (l : List CmdP) : (l.map cmT).all (·.all noref) = true := noref_map (fun _ => by simp) l
abbrev cmdO (x : CmdP) : TV := .ag (cmO x)
def spwN (l : List CmdP) : Nat := (l.filter fun x => decide (x.1 = 1)).length
theorem spwN_at {l : List CmdP} {x : CmdP} {j : Nat} (h : l[j]? = some x) : spwN (l.take (j + 1)) = spwN (l.take j) + (if x.1 = 1 then 1 else 0) := by
 rw [take_snoc h]; unfold spwN; rw [List.filter_append, List.length_append]
 split <;> rename_i hx <;> simp [hx]
theorem spwN_le (l : List CmdP) : spwN l ≤ l.length := List.length_filter_le _ _
theorem w39 (l : List CmdP) (hl : l.length ≤ 2^40) : Contract Try.prog false 39 [.ro] [.sl false 9 (l.map cmT)] [.i .i64 (spwN l)] [] := by
 refine mk_contract [] Try.func39 (c := Try.f39.body.get!) (by kernel_rfl) k39 r39 (of_decide_eq_true rfl) fun _ => ?_
 unfold c39; simp
 refine twp_for l.length (fun j s => s.t 0 = .sl false 9 (l.map cmT) ∧ s.t 3 = .i .i64 (spwN (l.take j)) ∧ s.t 4 = .i .i64 j ∧ s.H = lk [(1, [])]) [] (by simp) ?_ ?_
 ·simp [spwN]
 ·rintro j s hj ⟨q0, q3, q4, qH⟩
  rw [nf_of qH]
  simp [q0, q3, q4]
  refine ⟨fun hlt => ?_, fun hge => ?_⟩
  ·have hw : IntKind.i64.wrap (j + 1) = j + 1 := wrap_id (by omega) (by omega)
   obtain ⟨x, hx⟩ := get_some hlt
   have hle := spwN_le (l.take j)
   rw [List.length_take] at hle
   have hw1 : IntKind.i64.wrap ((spwN (l.take j) : Int) + 1) = spwN (l.take j) + 1 := wrap_id (by omega) (by omega)
   by_cases h1 : x.1 = 1
   ·have e := spwN_at hx
    rw [if_pos h1] at e
    simp [hx, hw, hw1, h1, q0, q3, q4, e]
    exact hlt
   ·have e := spwN_at hx
    rw [if_neg h1] at e
    simp [hx, hw, hw1, h1, q0, q3, q4, e]
    exact hlt
  ·obtain rfl : j = l.length := by omega
   simp [q0, q3, q4]
theorem w38 (l : List CmdP) (hl : l.length ≤ 2^40) : Contract Try.prog false 38 [.ro] [.sl false 9 (l.map cmT)] [.i .i64 (spwN l)] [] := by
 refine mk_contract [] Try.func38 (c := Try.f38.body.get!) (by kernel_rfl) k38 r38 (of_decide_eq_true rfl) fun _ => ?_
 unfold c38; simp
 refine twp_for l.length (fun j s => s.t 3 = .i .i64 (spwN (l.take j)) ∧ s.t 6 = .sl false 9 (l.map cmT) ∧ s.t 7 = .i .i64 l.length ∧ s.t 8 = .i .i64 j ∧ s.H = lk [(1, [])]) [7] (by simp) ?_ ?_
 ·simp [spwN]
 ·rintro j s hj ⟨q3, q6, q7, q8, qH⟩
  rw [nf_of qH]
  simp [q3, q6, q7, q8]
  refine ⟨fun hlt => ?_, fun hge => ?_⟩
  ·have hw : IntKind.i64.wrap (j + 1) = j + 1 := wrap_id (by omega) (by omega)
   obtain ⟨x, hx⟩ := get_some hlt
   have hle := spwN_le (l.take j)
   rw [List.length_take] at hle
   have hw1 : IntKind.i64.wrap ((spwN (l.take j) : Int) + 1) = spwN (l.take j) + 1 := wrap_id (by omega) (by omega)
   by_cases h1 : x.1 = 1
   ·have e := spwN_at hx
    rw [if_pos h1] at e
    simp [hx, hw, hw1, h1, q3, q6, q7, q8, e]
    exact hlt
   ·have e := spwN_at hx
    rw [if_neg h1] at e
    simp [hx, hw, hw1, h1, q3, q6, q7, q8, e]
    exact hlt
  ·obtain rfl : j = l.length := by omega
   simp [q3, q6, q7, q8]
end Go.Proofs.YtmedelmfkciblaaT


namespace Go.Proofs.YtmedelmfkciblaaT
set_option linter.unusedVariables false
set_option linter.unusedSimpArgs false
open Go
def c174 : TCode := (.seq (.ops [⟨(some 2), 4, .box 4 (.t 0), none, []⟩, ⟨(some 4), 6, .box 4 (.c (.ag [(.sl true 1 []), (.sl true 1 []), (.sl true 3 []), (.sl true 4 [])])), none, []⟩, ⟨(some 5), 7, .mv (.c (.i .i64 0)), none, []⟩])
 (.seq (.seq (.ops [⟨(some 6), 8, .mv (.c (.i .i64 0)), none, []⟩])
 (.block 0 (.loop (.seq (.seq (.ops [⟨(some 9), 11, .mv (.t 6), none, []⟩, ⟨(some 10), 12, .faddr 2 1 (.t 2), none, []⟩, ⟨(some 11), 13, .load false 1 (.t 10), none, []⟩, ⟨(some 12), 14, .len false (.t 11), none, []⟩, ⟨(some 13), 15, .bin .lss (.t 9) (.t 12), none, []⟩])
 (.cond (.t 13)
 .skip
 (.exit 0)))
 (.seq (.block 1 (.seq (.ops [⟨(some 16), 18, .faddr 2 1 (.t 2), none, []⟩, ⟨(some 17), 19, .load false 1 (.t 16), none, []⟩, ⟨(some 18), 20, .mv (.t 6), none, []⟩, ⟨(some 19), 21, .iaddr 3 (.t 17) (.t 18), none, []⟩, ⟨(some 20), 22, .faddr 0 1 (.t 19), none, []⟩, ⟨(some 21), 23, .load false 1 (.t 20), none, []⟩, ⟨(some 22), 24, .mv (.t 1), none, []⟩, ⟨(some 23), 25, .call 115 [((.t 21), 0), ((.t 22), 0)], none, []⟩])
 (.cond (.t 23)
 (.seq (.ops [⟨(some 24), 26, .load true 4 (.t 2), none, []⟩, ⟨(some 25), 27, .mv (.t 6), none, []⟩, ⟨none, 1005002, .store 4 (.t 4) (.t 24), none, []⟩, ⟨(some 5), 7, .mv (.t 25), none, []⟩])
 .ret)
 .skip)))
 (.ops [⟨(some 14), 16, .mv (.t 6), none, []⟩, ⟨(some 15), 17, .bin .add (.t 14) (.c (.i .i64 1)), none, []⟩, ⟨(some 6), 8, .mv (.t 15), none, []⟩]))))))
 (.seq (.seq (.ops [⟨(some 26), 28, .faddr 2 1 (.t 2), none, []⟩, ⟨(some 27), 29, .load false 1 (.t 26), none, []⟩, ⟨(some 28), 30, .len false (.t 27), none, []⟩, ⟨(some 29), 31, .bin .geq (.t 28) (.c (.i .i64 40)), none, []⟩])
 (.cond (.t 29)
 (.seq (.ops [⟨(some 30), 32, .load true 4 (.t 2), none, []⟩, ⟨none, 1007001, .store 4 (.t 4) (.t 30), none, []⟩, ⟨(some 5), 7, .mv (.c (.i .i64 (-1))), none, []⟩])
 .ret)
 .skip))
 (.seq (.ops [⟨(some 31), 33, .bslice 1 0 [(.i .i64 0)] [], none, []⟩, ⟨(some 32), 34, .mv (.t 1), none, []⟩, ⟨(some 33), 35, .app 1 8 (.t 31) (.t 32), none, []⟩, ⟨(some 34), 36, .build [(.sl true 1 []), (.sl true 2 []), (.sl true 1 [])] [(0, 1, (.t 33))], none, []⟩, ⟨(some 7), 9, .box 3 (.c (.ag [(.sl true 1 []), (.sl true 2 []), (.sl true 1 [])])), none, []⟩, ⟨none, 1008005, .store 3 (.t 7) (.t 34), none, []⟩])
 (.seq (.seq (.ops [⟨(some 8), 10, .mv (.c (.i .i64 0)), none, []⟩])
 (.block 2 (.loop (.seq (.seq (.ops [⟨(some 35), 37, .mv (.t 8), none, []⟩, ⟨(some 36), 38, .mv (.t 1), none, []⟩, ⟨(some 37), 39, .len false (.t 36), none, []⟩, ⟨(some 38), 40, .bin .lss (.t 35) (.t 37), none, []⟩])
 (.cond (.t 38)
 .skip
 (.exit 2)))
 (.seq (.block 3 (.ops [⟨(some 41), 43, .faddr 2 1 (.t 7), none, []⟩, ⟨(some 42), 44, .load false 1 (.t 41), none, []⟩, ⟨(some 43), 45, .bslice 4 0 [(.i .i64 0), (.i .i64 0), (.f 0), (.f 0)] [], none, []⟩, ⟨(some 44), 46, .bslice 1 1 [(.sl true 4 [])] [(0, (.t 43))], none, []⟩, ⟨(some 45), 47, .app 1 24 (.t 42) (.t 44), none, []⟩, ⟨(some 46), 48, .faddr 2 1 (.t 7), none, []⟩, ⟨none, 1012006, .store 1 (.t 46) (.t 45), none, []⟩]))
 (.ops [⟨(some 39), 41, .mv (.t 8), none, []⟩, ⟨(some 40), 42, .bin .add (.t 39) (.c (.i .i64 1)), none, []⟩, ⟨(some 8), 10, .mv (.t 40), none, []⟩]))))))
 (.seq (.ops [⟨(some 47), 49, .faddr 2 1 (.t 2), none, []⟩, ⟨(some 48), 50, .load false 1 (.t 47), none, []⟩, ⟨(some 49), 51, .load true 3 (.t 7), none, []⟩, ⟨(some 50), 52, .bslice 3 1 [(.sl true 1 []), (.sl true 2 []), (.sl true 1 [])] [(0, (.t 49))], none, []⟩, ⟨(some 51), 53, .app 3 72 (.t 48) (.t 50), none, []⟩, ⟨(some 52), 54, .faddr 2 1 (.t 2), none, []⟩, ⟨none, 1013006, .store 1 (.t 52) (.t 51), none, []⟩])
 (.seq (.draw [⟨(some 53), 55, .load true 4 (.t 2), none, []⟩, ⟨(some 54), 56, .faddr 2 1 (.t 2), none, []⟩, ⟨(some 55), 57, .load false 1 (.t 54), none, []⟩, ⟨(some 56), 58, .len false (.t 55), none, []⟩, ⟨(some 57), 59, .bin .sub (.t 56) (.c (.i .i64 1)), none, []⟩, ⟨none, 1014005, .store 4 (.t 4) (.t 53), none, [1000000, 1, 2, 3, 4]⟩, ⟨(some 5), 7, .mv (.t 57), none, []⟩])
 .ret)))))))
theorem k174 : compCode Try.prog Try.f174.ntmps Try.f174.body.get! = some c174 := by kernel_rfl
theorem r174 : resTmps Try.prog Try.f174.results.toList = some [.cell 4 true 4, .tmp 5] := by kernel_rfl
def c216 : TCode := (.seq (.ops [⟨(some 3), 5, .box 4 (.t 0), none, []⟩, ⟨(some 6), 8, .mv (.c (.sl true 5 [])), none, []⟩])
 (.seq (.ops [⟨(some 9), 11, .bslice 5 0 [(.i .i64 0), (.i .i64 0), (.i .i64 0), (.f 0), (.f 0)] [], none, []⟩, ⟨(some 7), 9, .mv (.t 9), none, []⟩])
 (.seq (.seq (.ops [⟨(some 8), 10, .mv (.c (.i .i64 0)), none, []⟩])
 (.block 0 (.loop (.seq (.seq (.ops [⟨(some 10), 12, .mv (.t 8), none, []⟩, ⟨(some 11), 13, .faddr 2 1 (.t 3), none, []⟩, ⟨(some 12), 14, .load false 1 (.t 11), none, []⟩, ⟨(some 13), 15, .mv (.t 1), none, []⟩, ⟨(some 14), 16, .iaddr 3 (.t 12) (.t 13), none, []⟩, ⟨(some 15), 17, .faddr 0 1 (.t 14), none, []⟩, ⟨(some 16), 18, .load false 1 (.t 15), none, []⟩, ⟨(some 17), 19, .len false (.t 16), none, []⟩, ⟨(some 18), 20, .bin .lss (.t 10) (.t 17), none, []⟩])
 (.cond (.t 18)
 .skip
 (.exit 0)))
 (.seq (.block 1 (.draw [⟨(some 21), 23, .mv (.t 7), none, []⟩, ⟨(some 22), 24, .faddr 2 1 (.t 3), none, []⟩, ⟨(some 23), 25, .load false 1 (.t 22), none, []⟩, ⟨(some 24), 26, .mv (.t 1), none, []⟩, ⟨(some 25), 27, .iaddr 3 (.t 23) (.t 24), none, []⟩, ⟨(some 26), 28, .faddr 0 1 (.t 25), none, []⟩, ⟨(some 27), 29, .load false 1 (.t 26), none, []⟩, ⟨(some 28), 30, .mv (.t 8), none, []⟩, ⟨(some 29), 31, .iaddr 1 (.t 27) (.t 28), none, []⟩, ⟨(some 30), 32, .load false 1 (.t 29), none, []⟩, ⟨(some 31), 33, .faddr 2 1 (.t 3), none, []⟩, ⟨(some 32), 34, .load false 1 (.t 31), none, []⟩, ⟨(some 33), 35, .mv (.t 1), none, []⟩, ⟨(some 34), 36, .iaddr 3 (.t 32) (.t 33), none, []⟩, ⟨(some 35), 37, .faddr 2 1 (.t 34), none, []⟩, ⟨(some 36), 38, .load false 1 (.t 35), none, []⟩, ⟨(some 37), 39, .mv (.t 8), none, []⟩, ⟨(some 38), 40, .iaddr 1 (.t 36) (.t 37), none, []⟩, ⟨(some 39), 41, .load false 1 (.t 38), none, []⟩, ⟨(some 40), 42, .mv (.t 2), none, []⟩, ⟨(some 41), 43, .iaddr 4 (.t 39) (.t 40), none, []⟩, ⟨(some 42), 44, .load true 4 (.t 41), none, []⟩, ⟨(some 43), 45, .build [(.i .i64 0), (.i .i64 0), (.i .i64 0), (.f 0), (.f 0)] [(0, 1, (.t 30)), (1, 4, (.t 42))], none, []⟩, ⟨(some 44), 46, .bslice 5 1 [(.i .i64 0), (.i .i64 0), (.i .i64 0), (.f 0), (.f 0)] [(0, (.t 43))], none, [0]⟩, ⟨(some 45), 47, .app 5 40 (.t 21) (.t 44), none, []⟩, ⟨(some 7), 9, .mv (.t 45), none, []⟩]))
 (.ops [⟨(some 19), 21, .mv (.t 8), none, []⟩, ⟨(some 20), 22, .bin .add (.t 19) (.c (.i .i64 1)), none, []⟩, ⟨(some 8), 10, .mv (.t 20), none, []⟩]))))))
 (.seq (.ops [⟨(some 46), 48, .mv (.t 7), none, []⟩, ⟨(some 6), 8, .mv (.t 46), none, []⟩])
 .ret))))
theorem k216 : compCode Try.prog Try.f216.ntmps Try.f216.body.get! = some c216 := by kernel_rfl
theorem r216 : resTmps Try.prog Try.f216.results.toList = some [.tmp 6] := by kernel_rfl
def newT (cols : List Int) : TableP := (cols, [], List.replicate cols.length [])
def tabW (ts : List TableP) (cols : List Int) : List TableP × Nat := if 0 ≤ tabIx ts cols then (ts, (tabIx ts cols).toNat) else (ts ++ [newT cols], ts.length)
def fullT (ts : List TableP) (cols : List Int) : Prop := ¬ 0 ≤ tabIx ts cols ∧ 40 ≤ ts.length
theorem tabIx_none {ts : List TableP} {cols : List Int} (h : noT cols ts) : tabIx ts cols = -1 := idxP_none h
set_option maxRecDepth 100000 in
theorem w174 (g f : List Int) (ts : List TableP) (rs : List ValP) (cols : List Int) (hok : ∀ t ∈ ts, t.1.length ≤ 2^36) (hl : ts.length ≤ 2^36) (hc : cols.length ≤ 2^36) (hn : ¬ fullT ts cols) : Contract Try.prog false 174 [.own, .ro] [worldO g f ts rs, .sl false 1 (cols.map iT)] [worldO g f (tabW ts cols).1 rs, .i .i64 (tabW ts cols).2] [none, none, none, none] := by
 refine mk_contract [none, none, none, none] Try.func174 (c := Try.f174.body.get!) (by kernel_rfl) k174 r174 (of_decide_eq_true rfl) fun _ => ?_
 unfold c174; simp
 refine twp_for ts.length (fun j s => noT cols (ts.take j) ∧ s.t 1 = .sl false 1 (cols.map iT) ∧ s.t 2 = .pt [(4, 0)] 0 0 ∧ s.t 4 = .pt [(6, 0)] 0 0 ∧ s.t 6 = .i .i64 j ∧ s.H = lk [(1, [.junk, .junk, .junk, .junk]), (4, [.po true [.sl true 1 (g.map iT), .sl true 1 (f.map iT), .sl true 3 (ts.map tbO), .sl true 4 (rs.map vT)]]), (6, [.po true [.sl true 1 [], .sl true 1 [], .sl true 3 [], .sl true 4 []]])]) [] (by simp) ?_ ?_
 ·refine ⟨by simp [noT_nil], ?_⟩
  simp
 ·rintro j s hj ⟨hno, q1, q2, q4, q6, qH⟩
  rw [nf_of qH]
  have hw : IntKind.i64.wrap ((j : Int) + 1) = j + 1 := wrap_id (by omega) (by omega)
  cases hb9 : decide (j < ts.length)
  ·have hge := of_decide_eq_false hb9
   rw [List.take_of_length_le (by omega)] at hno
   have hix := tabIx_none hno
   have hlt : ts.length < 40 := by
    refine Decidable.byContradiction fun h => hn ⟨by omega, by omega⟩
   have hlt' : ¬ (40 ≤ ts.length) := by omega
   have eW : tabW ts cols = (ts ++ [newT cols], ts.length) := by unfold tabW; rw [if_neg (by omega)]
   rw [eW]
   simp [q1, q2, q4, q6, hb9, hlt']
   refine ⟨by omega, fun _ => ⟨by omega, ?_⟩⟩
   refine twp_for cols.length (fun j s => ∃ L : List (List ValP), L = List.replicate j [] ∧ L.length = j ∧ s.t 1 = .sl false 1 (cols.map iT) ∧ s.t 2 = .pt [(4, 0)] 0 0 ∧ s.t 4 = .pt [(6, 0)] 0 0 ∧ s.t 7 = .pt [(9, 0)] 0 0 ∧ s.t 8 = .i .i64 j ∧ s.H = lk [(1, [.junk, .junk, .junk, .junk]), (4, [.po true [.sl true 1 (g.map iT), .sl true 1 (f.map iT), .sl true 3 (ts.map tbO), .sl true 4 (rs.map vT)]]), (6, [.po true [.sl true 1 [], .sl true 1 [], .sl true 3 [], .sl true 4 []]]), (9, [.po true [.sl true 1 (cols.map iT), .sl true 2 [], .sl true 1 (L.map cvO)]])]) [33, 35, 45, 46, 47] (by simp) ?_ ?_
   ·refine ⟨[], rfl, rfl, ?_⟩
    simp [q1, q2, q4, q6]
   ·rintro j s hj ⟨L, hL, hLl, q1, q2, q4, q7, q8, qH⟩
    rw [nf_of qH]
    have hw : IntKind.i64.wrap ((j : Int) + 1) = j + 1 := wrap_id (by omega) (by omega)
    cases hb9 : decide (j < cols.length)
    ·have hge := of_decide_eq_false hb9
     obtain rfl : j = cols.length := by omega
     have hw2 : IntKind.i64.wrap (ts.length : Int) = ts.length := wrap_id (by omega) (by omega)
     simp [q1, q2, q4, q7, q8, hb9, takeRows, hw2]
     exact ⟨by omega, rfl, rfl, by rw [hL]; rfl⟩
    ·have hlt := of_decide_eq_true hb9
     have e : List.map cvO L ++ [[TV.sl true 4 []]] = List.replicate (j + 1) [TV.sl true 4 []] := by rw [hL]; simp [List.replicate_succ']
     simp [q1, q2, q4, q7, q8, hb9, hw, takeRows, hLl, e]
     omega
  ·have hlt := of_decide_eq_true hb9
   obtain ⟨t, ht⟩ := get_some hlt
   have hm := List.mem_of_getElem? ht
   have hsn := take_snoc ht
   simp [q1, q2, q4, q6, hb9, ht, hw]
   by_cases hq : t.1 = cols
   ·have hix : tabIx ts cols = j := idxP_at ht (by simp [isT, hq]) hno
    have eW : tabW ts cols = (ts, j) := by unfold tabW; rw [if_pos (by omega), hix]; rfl
    rw [eW]
    refine ⟨hlt, ?_⟩
    refine callW_ms [.ro, .ro] ?_
    simp [ht]
    refine callX_of ((w115 t.1 cols (by have := hok t hm; omega) (by omega)).t hq) (by simp) ?_
    simp [q1, q2, q4, q6, hb9, hw]
   ·refine ⟨hlt, ?_⟩
    refine callW_ms [.ro, .ro] ?_
    simp [ht]
    refine callX_of ((w115 t.1 cols (by have := hok t hm; omega) (by omega)).f hq) (by simp) ?_
    simp [q1, q2, q4, q6, hb9, hw, ht]
    rw [hsn]
    exact ⟨hlt, noT_snoc hno (by simp [isT, hq])⟩
theorem W174a (g f : List Int) (ts : List TableP) (rs : List ValP) (cols : List Int) (hok : ∀ t ∈ ts, t.1.length ≤ 2^36) (hl : ts.length ≤ 2^36) (hc : cols.length ≤ 2^36) (hn : fullT ts cols) : Contract Try.prog true 174 [.ro, .ro] [worldR g f ts rs, .sl false 1 (cols.map iT)] [worldR g f ts rs, .i .i64 (-1)] [] := by
 refine mk_contract [] Try.func174 (c := Try.f174.body.get!) (by kernel_rfl) k174 r174 (of_decide_eq_true rfl) fun _ => ?_
 unfold c174; simp
 refine twp_for ts.length (fun j s => noT cols (ts.take j) ∧ s.t 1 = .sl false 1 (cols.map iT) ∧ s.t 2 = .pt [(4, 0)] 0 0 ∧ s.t 4 = .pt [(6, 0)] 0 0 ∧ s.t 6 = .i .i64 j ∧ s.H = lk [(1, []), (4, [.po true [.sl false 1 (g.map iT), .sl false 1 (f.map iT), .sl false 3 (ts.map tbT), .sl false 4 (rs.map vT)]]), (6, [.po true [.sl true 1 [], .sl true 1 [], .sl true 3 [], .sl true 4 []]])]) [] (by simp) ?_ ?_
 ·refine ⟨by simp [noT_nil], ?_⟩
  simp
 ·rintro j s hj ⟨hno, q1, q2, q4, q6, qH⟩
  rw [nf_of qH]
  have hw : IntKind.i64.wrap ((j : Int) + 1) = j + 1 := wrap_id (by omega) (by omega)
  cases hb9 : decide (j < ts.length)
  ·have hge : (40 : Int) ≤ ts.length := by have := hn.2; omega
   simp [q1, q2, q4, q6, hb9, hge]
  ·have hlt := of_decide_eq_true hb9
   obtain ⟨t, ht⟩ := get_some hlt
   have hm := List.mem_of_getElem? ht
   have hsn := take_snoc ht
   simp [q1, q2, q4, q6, hb9, ht, hw]
   by_cases hq : t.1 = cols
   ·have hix : tabIx ts cols = j := idxP_at ht (by simp [isT, hq]) hno
    exact absurd (by omega) hn.1
   ·refine callW_ms [.ro, .ro] ?_
    simp [ht]
    refine callX_of ((w115 t.1 cols (by have := hok t hm; omega) (by omega)).f hq) (by simp) ?_
    simp [q1, q2, q4, q6, hb9, hw, ht]
    rw [hsn]
    exact ⟨hlt, noT_snoc hno (by simp [isT, hq])⟩
theorem W174f (g f : List Int) (ts : List TableP) (rs : List ValP) (cols : List Int) (hok : ∀ t ∈ ts, t.1.length ≤ 2^36) (hl : ts.length ≤ 2^36) (hc : cols.length ≤ 2^36) (hn : fullT ts cols) : Contract Try.prog false 174 [.ro, .ro] [worldR g f ts rs, .sl false 1 (cols.map iT)] [.ag [.sl false 0 ((g.map iT).map fun _ => []), .sl false 0 ((f.map iT).map fun _ => []), .sl false 0 ((ts.map tbT).map fun _ => []), .sl false 0 ((rs.map vT).map fun _ => [])], .i .i64 (-1)] [] :=
 Contract.blurs (W174a g f ts rs cols hok hl hc hn) rfl rfl
end Go.Proofs.YtmedelmfkciblaaT


namespace Go.Proofs.YtmedelmfkciblaaT
set_option linter.unusedVariables false
set_option linter.unusedSimpArgs false
open Go
def c217 : TCode := (.seq (.ops [⟨(some 4), 6, .box 4 (.t 0), none, []⟩, ⟨(some 8), 10, .box 4 (.c (.ag [(.sl true 1 []), (.sl true 1 []), (.sl true 3 []), (.sl true 4 [])])), none, []⟩, ⟨(some 9), 11, .mv (.c (.i .i64 0)), none, []⟩])
 (.seq (.ops [⟨(some 15), 17, .bslice 1 0 [(.i .i64 0)] [], none, []⟩, ⟨(some 10), 12, .mv (.t 15), none, []⟩])
 (.seq (.seq (.ops [⟨(some 11), 13, .mv (.c (.i .i64 0)), none, []⟩])
 (.block 0 (.loop (.seq (.seq (.ops [⟨(some 16), 18, .mv (.t 11), none, []⟩, ⟨(some 17), 19, .mv (.t 3), none, []⟩, ⟨(some 18), 20, .len false (.t 17), none, []⟩, ⟨(some 19), 21, .bin .lss (.t 16) (.t 18), none, []⟩])
 (.cond (.t 19)
 .skip
 (.exit 0)))
 (.seq (.block 1 (.ops [⟨(some 22), 24, .mv (.t 10), none, []⟩, ⟨(some 23), 25, .mv (.t 3), none, []⟩, ⟨(some 24), 26, .mv (.t 11), none, []⟩, ⟨(some 25), 27, .iaddr 5 (.t 23) (.t 24), none, []⟩, ⟨(some 26), 28, .faddr 0 1 (.t 25), none, []⟩, ⟨(some 27), 29, .load false 1 (.t 26), none, []⟩, ⟨(some 28), 30, .bslice 1 1 [(.i .i64 0)] [(0, (.t 27))], none, []⟩, ⟨(some 29), 31, .app 1 8 (.t 22) (.t 28), none, []⟩, ⟨(some 10), 12, .mv (.t 29), none, []⟩]))
 (.ops [⟨(some 20), 22, .mv (.t 11), none, []⟩, ⟨(some 21), 23, .bin .add (.t 20) (.c (.i .i64 1)), none, []⟩, ⟨(some 11), 13, .mv (.t 21), none, []⟩]))))))
 (.seq (.ops [⟨(some 31), 33, .load true 4 (.t 4), none, []⟩, ⟨(some 32), 34, .mv (.t 10), none, []⟩, ⟨(some 33), 35, .call 174 [((.t 31), 0), ((.t 32), 0)], none, []⟩, ⟨(some 30), 32, .mv (.t 33), none, []⟩, ⟨(some 34), 36, .ext 0 (.t 30), none, []⟩, ⟨(some 35), 37, .ext 1 (.t 30), none, []⟩, ⟨(some 12), 14, .box 4 (.c (.ag [(.sl true 1 []), (.sl true 1 []), (.sl true 3 []), (.sl true 4 [])])), none, []⟩, ⟨none, 1006007, .store 4 (.t 12) (.t 34), none, []⟩, ⟨(some 13), 15, .mv (.t 35), none, []⟩])
 (.seq (.seq (.ops [⟨(some 36), 38, .mv (.t 13), none, []⟩, ⟨(some 37), 39, .bin .lss (.t 36) (.c (.i .i64 0)), none, []⟩])
 (.cond (.t 37)
 (.seq (.ops [⟨(some 38), 40, .load true 4 (.t 4), none, []⟩, ⟨none, 1008001, .store 4 (.t 8) (.t 38), none, []⟩, ⟨(some 9), 11, .mv (.c (.i .i64 3)), none, []⟩])
 .ret)
 .skip))
 (.seq (.draw [⟨(some 39), 41, .faddr 2 1 (.t 12), none, []⟩, ⟨(some 40), 42, .load false 1 (.t 39), none, []⟩, ⟨(some 41), 43, .mv (.t 13), none, []⟩, ⟨(some 42), 44, .faddr 2 1 (.t 12), none, []⟩, ⟨(some 43), 45, .load false 1 (.t 42), none, []⟩, ⟨(some 44), 46, .mv (.t 13), none, []⟩, ⟨(some 45), 47, .iaddr 3 (.t 43) (.t 44), none, []⟩, ⟨(some 46), 48, .faddr 1 1 (.t 45), none, []⟩, ⟨(some 47), 49, .load false 1 (.t 46), none, []⟩, ⟨(some 48), 50, .faddr 2 1 (.t 12), none, []⟩, ⟨(some 49), 51, .load false 1 (.t 48), none, []⟩, ⟨(some 50), 52, .mv (.t 1), none, []⟩, ⟨(some 51), 53, .iaddr 3 (.t 49) (.t 50), none, []⟩, ⟨(some 52), 54, .faddr 1 1 (.t 51), none, []⟩, ⟨(some 53), 55, .load false 1 (.t 52), none, []⟩, ⟨(some 54), 56, .mv (.t 2), none, []⟩, ⟨(some 55), 57, .iaddr 2 (.t 53) (.t 54), none, []⟩, ⟨(some 56), 58, .load true 2 (.t 55), none, []⟩, ⟨(some 57), 59, .bslice 2 1 [(.i .i64 0), (.i .i64 0)] [(0, (.t 56))], none, [0, 1, 2, 3, 4, 5, 6, 7, 8]⟩, ⟨(some 58), 60, .app 2 16 (.t 47) (.t 57), none, [0, 1, 2]⟩, ⟨(some 59), 61, .iaddr 3 (.t 40) (.t 41), none, []⟩, ⟨(some 60), 62, .faddr 1 1 (.t 59), none, []⟩, ⟨none, 1009022, .store 1 (.t 60) (.t 58), none, []⟩])
 (.seq (.seq (.ops [⟨(some 14), 16, .mv (.c (.i .i64 0)), none, []⟩])
 (.block 2 (.loop (.seq (.seq (.ops [⟨(some 61), 63, .mv (.t 14), none, []⟩, ⟨(some 62), 64, .mv (.t 3), none, []⟩, ⟨(some 63), 65, .len false (.t 62), none, []⟩, ⟨(some 64), 66, .bin .lss (.t 61) (.t 63), none, []⟩])
 (.cond (.t 64)
 .skip
 (.exit 2)))
 (.seq (.block 3 (.draw [⟨(some 67), 69, .faddr 2 1 (.t 12), none, []⟩, ⟨(some 68), 70, .load false 1 (.t 67), none, []⟩, ⟨(some 69), 71, .mv (.t 13), none, []⟩, ⟨(some 70), 72, .iaddr 3 (.t 68) (.t 69), none, []⟩, ⟨(some 71), 73, .faddr 2 1 (.t 70), none, []⟩, ⟨(some 72), 74, .load false 1 (.t 71), none, []⟩, ⟨(some 73), 75, .mv (.t 14), none, []⟩, ⟨(some 74), 76, .faddr 2 1 (.t 12), none, []⟩, ⟨(some 75), 77, .load false 1 (.t 74), none, []⟩, ⟨(some 76), 78, .mv (.t 13), none, []⟩, ⟨(some 77), 79, .iaddr 3 (.t 75) (.t 76), none, []⟩, ⟨(some 78), 80, .faddr 2 1 (.t 77), none, []⟩, ⟨(some 79), 81, .load false 1 (.t 78), none, []⟩, ⟨(some 80), 82, .mv (.t 14), none, []⟩, ⟨(some 81), 83, .iaddr 1 (.t 79) (.t 80), none, []⟩, ⟨(some 82), 84, .load false 1 (.t 81), none, []⟩, ⟨(some 83), 85, .mv (.t 3), none, []⟩, ⟨(some 84), 86, .mv (.t 14), none, []⟩, ⟨(some 85), 87, .iaddr 5 (.t 83) (.t 84), none, []⟩, ⟨(some 86), 88, .faddr 1 4 (.t 85), none, []⟩, ⟨(some 87), 89, .load true 4 (.t 86), none, []⟩, ⟨(some 88), 90, .bslice 4 1 [(.i .i64 0), (.i .i64 0), (.f 0), (.f 0)] [(0, (.t 87))], none, [0, 1, 2, 3, 4, 5, 6, 7, 8, 9, 10, 11, 12, 13, 14, 15]⟩, ⟨(some 89), 91, .app 4 32 (.t 82) (.t 88), none, [0, 1, 2, 3, 4, 5, 6]⟩, ⟨(some 90), 92, .iaddr 1 (.t 72) (.t 73), none, []⟩, ⟨none, 1013024, .store 1 (.t 90) (.t 89), none, []⟩]))
 (.ops [⟨(some 65), 67, .mv (.t 14), none, []⟩, ⟨(some 66), 68, .bin .add (.t 65) (.c (.i .i64 1)), none, []⟩, ⟨(some 14), 16, .mv (.t 66), none, []⟩]))))))
 (.seq (.ops [⟨(some 91), 93, .load true 4 (.t 12), none, []⟩, ⟨(some 92), 94, .mv (.t 1), none, []⟩, ⟨(some 93), 95, .mv (.t 2), none, []⟩, ⟨(some 94), 96, .call 220 [((.t 91), 0), ((.t 92), 0), ((.t 93), 0)], none, []⟩, ⟨none, 1014004, .store 4 (.t 8) (.t 94), none, []⟩, ⟨(some 9), 11, .mv (.c (.i .i64 0)), none, []⟩])
 .ret))))))))
theorem k217 : compCode Try.prog Try.f217.ntmps Try.f217.body.get! = some c217 := by kernel_rfl
theorem r217 : resTmps Try.prog Try.f217.results.toList = some [.cell 8 true 4, .tmp 9] := by kernel_rfl
def nilVal : ValP := (0, 0, 0, 0)
def rowL (t : TableP) (k : Nat) : List CellP := List.zipWith (fun c vs => (c, vs.getD k nilVal)) t.1 t.2.2
theorem rowL_len {t : TableP} {k : Nat} (h : t.2.2.length = t.1.length) : (rowL t k).length = t.1.length := by simp [rowL, h]
theorem rowL_get {t : TableP} {k j : Nat} {x : Int} {vs : List ValP} {v : ValP} (h1 : t.1[j]? = some x) (h2 : t.2.2[j]? = some vs) (h3 : vs[k]? = some v) : (rowL t k)[j]? = some (x, v) := by
 simp [rowL, List.getElem?_zipWith, h1, h2, h3]
set_option maxRecDepth 100000 in
theorem w216 (g f : List Int) (ts : List TableP) (rs : List ValP) (i k : Nat) (t : TableP) (hl : ts.length ≤ 2^36) (ht : ts[i]? = some t) (hc : t.1.length ≤ 2^36) (hs : t.2.2.length = t.1.length) (hv : ∀ v ∈ t.2.2, v.length = t.2.1.length) (hk : k < t.2.1.length) : Contract Try.prog false 216 [.ro, .ro, .ro] [worldR g f ts rs, .i .i64 i, .i .i64 k] [.sl true 5 ((rowL t k).map clT)] [] := by
 refine mk_contract [] Try.func216 (c := Try.f216.body.get!) (by kernel_rfl) k216 r216 (of_decide_eq_true rfl) fun _ => ?_
 have hil := (List.getElem?_eq_some_iff.1 ht).1
 have hrl := rowL_len (k := k) hs
 unfold c216; simp
 refine twp_forR t.1.length (fun j s => s.t 1 = .i .i64 i ∧ s.t 2 = .i .i64 k ∧ s.t 3 = .pt [(5, 0)] 0 0 ∧ s.t 7 = .rf [(47, 0)] 0 j ∧ s.t 8 = .i .i64 j ∧ s.H = lk [(1, []), (5, [.po true [.sl false 1 (g.map iT), .sl false 1 (f.map iT), .sl false 3 (ts.map tbT), .sl false 4 (rs.map vT)]]), (47, [.sl true 5 (((rowL t k).take j).map clT)])]) [46] [(11, 47)] (by simp) (by simp) ?_ ?_
 ·simp
 ·rintro j s hj ⟨q1, q2, q3, q7, q8, qH⟩
  rw [nf_of qH]
  simp [q1, q2, q3, q7, q8]
  have hmin : min j (rowL t k).length = j := by omega
  simp [ht]
  refine ⟨fun hlt => ?_, fun hge => ?_⟩
  ·have hw : IntKind.i64.wrap (j + 1) = j + 1 := wrap_id (by omega) (by omega)
   obtain ⟨x, hx⟩ := get_some hlt
   obtain ⟨vs, hvs⟩ : ∃ vs, t.2.2[j]? = some vs := get_some (by omega)
   have hvl := hv vs (List.mem_of_getElem? hvs)
   obtain ⟨v, hvv⟩ : ∃ v, vs[k]? = some v := get_some (by omega)
   have hgt := rowL_get hx hvs hvv
   simp [hx, hvs, hvv, ht, hw, q1, q2, q3, q7, q8, hmin, mapsnoc hgt]
   omega
  ·obtain rfl : j = t.1.length := by omega
   have hd : List.take t.fst.length (List.map clT (rowL t k)) = List.map clT (rowL t k) := List.take_of_length_le (by simp; omega)
   simp [q1, q2, q3, q7, q8, hd]
theorem tabIx_at {ts : List TableP} {cols : List Int} (h : 0 ≤ tabIx ts cols) : ∃ (j : Nat) (t : TableP), tabIx ts cols = j ∧ ts[j]? = some t ∧ t.1 = cols := by
 unfold tabIx idxP at h ⊢
 split at h
 ·rename_i j hj
  rw [List.findIdx?_eq_some_iff_getElem] at hj
  obtain ⟨hlt, hq, -⟩ := hj
  refine ⟨j, ts[j], rfl, List.getElem?_eq_getElem hlt, by simpa [isT] using hq⟩
 ·omega
def isTk {α : Type} (M : List α) (j : Nat) (Q : List α) : Prop := Q = M.take j
theorem isTk.snoc {α : Type} {M Q : List α} {j : Nat} {x : α} (h : isTk M j Q) (hx : M[j]? = some x) : isTk M (j + 1) (Q ++ [x]) := by
 unfold isTk at h ⊢
 rw [h, take_snoc hx]
def colsOf (L : List CellP) : List Int := L.map fun x => x.1
def joinT (t : TableP) (e : Int × Int) (L : List CellP) : TableP := (t.1, t.2.1 ++ [e], List.zipWith (fun vs x => vs ++ [x.2]) t.2.2 L)
def zipUp (C : List (List ValP)) (L : List CellP) (j : Nat) : List (List ValP) := List.zipWith (fun vs x => vs ++ [x.2]) (C.take j) (L.take j)
theorem zipUp_succ {C : List (List ValP)} {L : List CellP} {j : Nat} {vs : List ValP} {x : CellP} (h1 : C[j]? = some vs) (h2 : L[j]? = some x) : zipUp C L (j + 1) = zipUp C L j ++ [vs ++ [x.2]] := by
 have l1 := (List.getElem?_eq_some_iff.1 h1).1
 have l2 := (List.getElem?_eq_some_iff.1 h2).1
 unfold zipUp
 rw [take_snoc h1, take_snoc h2, List.zipWith_append (by simp; omega)]
 rfl
theorem zipUp_all {C : List (List ValP)} {L : List CellP} (h : C.length = L.length) : zipUp C L L.length = List.zipWith (fun vs x => vs ++ [x.2]) C L := by
 unfold zipUp
 rw [List.take_of_length_le (by omega), List.take_of_length_le (Nat.le_refl _)]
def isZip (C : List (List ValP)) (L : List CellP) (j : Nat) (Z : List (List ValP)) : Prop := Z = zipUp C L j
def leaveAt (ts : List TableP) (i k : Nat) : List TableP := ts.modify i fun t => leaveT t k
theorem get_mid_ne {α : Type} {A B : List α} {i : Nat} (h : i ≠ A.length) (x y : α) : (A ++ x :: B)[i]? = (A ++ y :: B)[i]? := by
 rcases Nat.lt_or_gt_of_ne h with h | h
 ·rw [List.getElem?_append_left h, List.getElem?_append_left h]
 ·rw [List.getElem?_append_right (by omega), List.getElem?_append_right (by omega)]
  obtain ⟨m, hm⟩ : ∃ m, i - A.length = m + 1 := ⟨i - A.length - 1, by omega⟩
  rw [hm]; rfl
theorem leaveAt_mid {A B : List TableP} {t : TableP} {k : Nat} : leaveAt (A ++ t :: B) A.length k = A ++ leaveT t k :: B := modify_mid rfl
def moveTs (ts : List TableP) (i k : Nat) (e : Int × Int) (L : List CellP) : List TableP :=
 leaveAt ((tabW ts (colsOf L)).1.modify (tabW ts (colsOf L)).2 fun t => joinT t e L) i k
set_option maxHeartbeats 4000000 in
set_option maxRecDepth 100000 in
theorem w217 (g f : List Int) (ts : List TableP) (rs : List ValP) (i k : Nat) (L : List CellP) (t : TableP) (e : Int × Int) (hok : ∀ t ∈ ts, t.1.length ≤ 2^36) (hl : ts.length ≤ 2^30) (hL : L.length ≤ 2^36) (hn : ¬ fullT ts (colsOf L)) (ht : ts[i]? = some t) (he : t.2.1[k]? = some e) (hne : t.1 ≠ colsOf L) (hto : ∀ t ∈ ts, t.2.1.length ≤ 2^36) (hC : ∀ t ∈ ts, t.2.2.length = t.1.length) (hv : ∀ t ∈ ts, ∀ v ∈ t.2.2, v.length = t.2.1.length) : Contract Try.prog false 217 [.own, .ro, .ro, .ro] [worldO g f ts rs, .i .i64 i, .i .i64 k, .sl false 5 (L.map clT)] [worldO g f (moveTs ts i k e L) rs, .i .i64 0] [none, none, none, none] := by
 refine mk_contract [none, none, none, none] Try.func217 (c := Try.f217.body.get!) (by kernel_rfl) k217 r217 (of_decide_eq_true rfl) fun _ => ?_
 have hcl : (colsOf L).length = L.length := by simp [colsOf]
 have hT := w174 g f ts rs (colsOf L) hok (by omega) (by omega) hn
 obtain ⟨A, B, T2, e1, e2, e3, e4, e5, e6, e7, e8⟩ : ∃ (A B : List TableP) (T2 : TableP), (tabW ts (colsOf L)).1 = A ++ T2 :: B ∧ (tabW ts (colsOf L)).2 = A.length ∧ T2.1 = colsOf L ∧ (A ++ T2 :: B)[i]? = some t ∧ i ≠ A.length ∧ T2.2.2.length = L.length ∧ T2.2.1.length ≤ 2^36 ∧ (∀ v ∈ T2.2.2, v.length = T2.2.1.length) ∧ (A.length ≤ 2^30 ∧ B.length ≤ 2^30) := by
  unfold tabW
  by_cases hix : 0 ≤ tabIx ts (colsOf L)
  ·rw [if_pos hix]
   obtain ⟨j, T2, h1, h2, h3⟩ : ∃ (j : Nat) (T2 : TableP), tabIx ts (colsOf L) = j ∧ ts[j]? = some T2 ∧ T2.1 = colsOf L := tabIx_at hix
   have hm := List.mem_of_getElem? h2
   obtain ⟨s1, s2⟩ := split_at h2
   have hij : i ≠ j := by
    rintro rfl
    rw [ht] at h2; cases h2
    exact hne h3
   have hjl := (List.getElem?_eq_some_iff.1 h2).1
   refine ⟨ts.take j, ts.drop (j + 1), T2, s1, by rw [s2, h1]; rfl, h3, by rw [← s1]; exact ht, by rw [s2]; exact hij, by rw [hC T2 hm, h3, hcl], hto T2 hm, hv T2 hm, by simp; omega, by simp; omega⟩
  ·rw [if_neg hix]
   have hil := (List.getElem?_eq_some_iff.1 ht).1
   refine ⟨ts, [], newT (colsOf L), rfl, rfl, rfl, ?_, by omega, by simp [newT, hcl], by simp [newT], ?_, hl, by simp⟩
   ·rw [List.getElem?_append_left hil]; exact ht
   ·intro v hv; simp [newT] at hv; rw [hv.2]; rfl
 obtain ⟨T21, T22, T23⟩ := T2
 simp only at e1 e2 e3 e4 e5 e6 e7 e8
 subst e3
 rw [e1, e2] at hT
 have hM : moveTs ts i k e L = leaveAt (A ++ joinT (colsOf L, T22, T23) e L :: B) i k := by
  unfold moveTs
  rw [e1, e2, modify_mid rfl]
 rw [hM]
 clear hM e1 e2
 obtain ⟨TS, hTS⟩ : ∃ TS, TS = leaveAt (A ++ joinT (colsOf L, T22, T23) e L :: B) i k := ⟨_, rfl⟩
 rw [← hTS]
 have hti : (A.map tbO ++ [.sl true 1 ((colsOf L).map iT), .sl true 2 (T22.map eT), .sl true 1 (T23.map cvO)] :: B.map tbO)[i]? = some (tbO t) := by
  rw [show (A.map tbO ++ [.sl true 1 ((colsOf L).map iT), .sl true 2 (T22.map eT), .sl true 1 (T23.map cvO)] :: B.map tbO) = (A ++ (colsOf L, T22, T23) :: B).map tbO by simp, List.getElem?_map, e4]
  rfl
 unfold c217; simp
 refine twp_forR L.length (fun j s => ∃ Q : List Int, isTk (colsOf L) j Q ∧ Q.length = j ∧ s.t 1 = .i .i64 i ∧ s.t 2 = .i .i64 k ∧ s.t 3 = .sl false 5 (L.map clT) ∧ s.t 4 = .pt [(6, 0)] 0 0 ∧ s.t 8 = .pt [(10, 0)] 0 0 ∧ s.t 10 = .rf [(31, 0)] 0 Q.length ∧ s.t 11 = .i .i64 j ∧ s.H = lk [(1, [.junk, .junk, .junk, .junk]), (6, [.po true [.sl true 1 (g.map iT), .sl true 1 (f.map iT), .sl true 3 (ts.map tbO), .sl true 4 (rs.map vT)]]), (10, [.po true [.sl true 1 [], .sl true 1 [], .sl true 3 [], .sl true 4 []]]), (31, [.sl true 1 (Q.map iT)])]) [30] [(17, 31)] (by simp) (by simp) ?_ ?_
 ·refine ⟨[], rfl, rfl, ?_⟩
  simp
 ·rintro j s hj ⟨Q, hQ, hQl, q1, q2, q3, q4, q8, q10, q11, qH⟩
  rw [nf_of qH]
  have hw : IntKind.i64.wrap ((j : Int) + 1) = j + 1 := wrap_id (by omega) (by omega)
  cases hb9 : decide (j < L.length)
  rotate_left
  ·have hlt := of_decide_eq_true hb9
   obtain ⟨x, hx⟩ := get_some hlt
   have hx2 : (colsOf L)[j]? = some x.1 := by simp [colsOf, hx]
   simp [q1, q2, q3, q4, q8, q10, q11, hb9, hx, hw]
   refine ⟨by omega, hlt, Q ++ [x.1], hQ.snoc hx2, by simp [hQl], ?_⟩
   simp
  ·have hge := of_decide_eq_false hb9
   obtain rfl : j = L.length := by omega
   have hQ2 : Q = colsOf L := hQ.trans (List.take_of_length_le (by omega))
   subst hQ2
   simp [q1, q2, q3, q4, q8, q10, q11, hb9]
   refine callW_ms [.own, .ro] ?_
   simp
   refine callX_of hT (by simp) ?_
   have hA0 : ¬ ((A.length : Int) < 0) := by omega
   simp [q1, q2, q3, q4, q8, q10, q11, hti, he, hA0, e5, Ne.symm e5]
   have hil : i < A.length + (B.length + 1) := by have := (List.getElem?_eq_some_iff.1 e4).1; simpa using this
   have hkl : k < t.2.1.length := (List.getElem?_eq_some_iff.1 he).1
   obtain ⟨e8, e9, e10⟩ := e8
   refine ⟨by omega, by omega, hkl, by omega, by omega, ?_⟩
   obtain ⟨R, hR⟩ : ∃ R, R = T22 ++ [e] := ⟨_, rfl⟩
   have eR : List.map eT T22 ++ [[TV.i .i64 e.1, TV.i .i64 e.2]] = R.map eT := by rw [hR]; simp
   rw [eR]
   have htlen : t.2.1.length ≤ 2^36 ∧ t.2.2.length ≤ 2^36 ∧ ∀ v ∈ t.2.2, v.length = t.2.1.length := by
    have hm := List.mem_of_getElem? ht
    exact ⟨hto t hm, by rw [hC t hm]; exact hok t hm, hv t hm⟩
   have htm : t ∈ A ++ (colsOf L, T22, T23) :: B := List.mem_of_getElem? e4
   clear hti hT hQ hQl
   refine twp_for L.length (fun j s => ∃ Z : List (List ValP), isZip T23 L j Z ∧ Z.length = j ∧ s.t 1 = .i .i64 i ∧ s.t 2 = .i .i64 k ∧ s.t 3 = .sl false 5 (L.map clT) ∧ s.t 8 = .pt [(10, 0)] 0 0 ∧ s.t 12 = .pt [(14, 0)] 0 0 ∧ s.t 13 = .i .i64 A.length ∧ s.t 14 = .i .i64 j ∧ s.H = lk [(1, [.junk, .junk, .junk, .junk]), (6, [.po true [.junk, .junk, .junk, .junk]]), (10, [.po true [.sl true 1 [], .sl true 1 [], .sl true 3 [], .sl true 4 []]]), (14, [.po true [.sl true 1 (g.map iT), .sl true 1 (f.map iT), .sl true 3 (A.map tbO ++ [.sl true 1 ((colsOf L).map iT), .sl true 2 (R.map eT), .sl true 1 (Z.map cvO ++ (T23.map cvO).drop j)] :: B.map tbO), .sl true 4 (rs.map vT)]])]) [31, 35, 59, 60, 90, 91] (by simp) ?_ ?_
   ·refine ⟨[], rfl, rfl, ?_⟩
    simp [q1, q2, q3, q4, q8, q10, q11]
   ·rintro j s hj ⟨Z, hZ, hZl, q1, q2, q3, q8, q12, q13, q14, qH⟩
    rw [nf_of qH]
    have hw : IntKind.i64.wrap ((j : Int) + 1) = j + 1 := wrap_id (by omega) (by omega)
    cases hb9 : decide (j < L.length)
    ·have hge := of_decide_eq_false hb9
     obtain rfl : j = L.length := by omega
     have hd : (T23.map cvO).drop L.length = [] := List.drop_eq_nil_of_le (by simp; omega)
     have hZ2 : Z = List.zipWith (fun vs x => vs ++ [x.2]) T23 L := Eq.trans hZ (zipUp_all e6)
     obtain ⟨ts2, hts2⟩ : ∃ ts2, ts2 = A ++ (colsOf L, R, Z) :: B := ⟨_, rfl⟩
     have hti2 : ts2[i]? = some t := by rw [hts2, ← get_mid_ne e5 (colsOf L, T22, T23) (colsOf L, R, Z)]; exact e4
     have hTS2 : TS = leaveAt ts2 i k := by rw [hTS, hts2, hR, hZ2]; rfl
     obtain ⟨s1, s2⟩ := split_at hti2
     have hla : leaveAt ts2 i k = ts2.take i ++ leaveT t k :: ts2.drop (i + 1) := by
      have h1 := leaveAt_mid (A := ts2.take i) (B := ts2.drop (i + 1)) (t := t) (k := k)
      rw [← s1, s2] at h1
      exact h1
     have hl2 : ts2.length = A.length + (B.length + 1) := by rw [hts2]; simp
     have hLv := w220 g f (ts2.take i) (ts2.drop (i + 1)) t rs k (by simp; omega) (by simp; omega) hkl htlen.1 htlen.2.1 htlen.2.2
     rw [← s1, s2, ← hla, ← hTS2, hts2] at hLv
     simp only [List.map_append, List.map_cons, tbO, worldO] at hLv
     simp [q1, q2, q3, q8, q12, q13, q14, hb9, hd]
     refine callW_ms [.own, .ro, .ro] ?_
     simp
     refine callX_of hLv (by simp) ?_
     simp [q8]
    ·have hlt := of_decide_eq_true hb9
     obtain ⟨x, hx⟩ := get_some hlt
     obtain ⟨vs, hvs⟩ : ∃ vs, T23[j]? = some vs := get_some (by omega)
     have hvl := e8 vs (List.mem_of_getElem? hvs)
     simp [q1, q2, q3, q8, q12, q13, q14, hb9, hx, hw, drop_at hvs, hZl]
     refine ⟨by omega, by omega, by omega, by omega, hlt, Z ++ [vs ++ [x.2]], ?_, by simp [hZl], ?_⟩
     ·unfold isZip at hZ ⊢
      rw [hZ, zipUp_succ hvs hx]
     ·simp
end Go.Proofs.YtmedelmfkciblaaT


namespace Go.Proofs.YtmedelmfkciblaaT
set_option linter.unusedVariables false
set_option linter.unusedSimpArgs false
open Go
def c177 : TCode := (.seq (.ops [⟨(some 4), 6, .box 4 (.t 0), none, []⟩, ⟨(some 5), 7, .box 2 (.t 1), none, []⟩, ⟨(some 7), 9, .box 4 (.t 3), none, []⟩, ⟨(some 8), 10, .box 4 (.c (.ag [(.sl true 1 []), (.sl true 1 []), (.sl true 3 []), (.sl true 4 [])])), none, []⟩, ⟨(some 9), 11, .mv (.c (.i .i64 0)), none, []⟩])
 (.seq (.seq (.ops [⟨(some 17), 19, .faddr 0 2 (.t 4), none, []⟩, ⟨(some 18), 20, .load true 2 (.t 17), none, []⟩, ⟨(some 19), 21, .load true 2 (.t 5), none, []⟩, ⟨(some 20), 22, .call 215 [((.t 18), 0), ((.t 19), 0)], none, []⟩, ⟨(some 21), 23, .un .not (.t 20), none, []⟩])
 (.cond (.t 21)
 (.seq (.ops [⟨(some 22), 24, .load true 4 (.t 4), none, []⟩, ⟨none, 1002001, .store 4 (.t 8) (.t 22), none, []⟩, ⟨(some 9), 11, .mv (.c (.i .i64 2)), none, []⟩])
 .ret)
 .skip))
 (.seq (.ops [⟨(some 24), 26, .load true 4 (.t 4), none, []⟩, ⟨(some 25), 27, .load true 2 (.t 5), none, []⟩, ⟨(some 26), 28, .call 59 [((.t 24), 0), ((.t 25), 0)], none, []⟩, ⟨(some 23), 25, .mv (.t 26), none, []⟩, ⟨(some 27), 29, .ext 0 (.t 23), none, []⟩, ⟨(some 28), 30, .ext 1 (.t 23), none, []⟩, ⟨(some 10), 12, .mv (.t 27), none, []⟩, ⟨(some 11), 13, .mv (.t 28), none, []⟩])
 (.seq (.ops [⟨(some 29), 31, .faddr 2 1 (.t 4), none, []⟩, ⟨(some 30), 32, .load false 1 (.t 29), none, []⟩, ⟨(some 31), 33, .mv (.t 10), none, []⟩, ⟨(some 32), 34, .iaddr 3 (.t 30) (.t 31), none, []⟩, ⟨(some 33), 35, .faddr 0 1 (.t 32), none, []⟩, ⟨(some 34), 36, .load false 1 (.t 33), none, []⟩, ⟨(some 35), 37, .mv (.t 2), none, []⟩, ⟨(some 36), 38, .call 100 [((.t 34), 0), ((.t 35), 0)], none, []⟩, ⟨(some 12), 14, .mv (.t 36), none, []⟩])
 (.seq (.seq (.ops [⟨(some 37), 39, .mv (.t 12), none, []⟩, ⟨(some 38), 40, .bin .geq (.t 37) (.c (.i .i64 0)), none, []⟩])
 (.cond (.t 38)
 (.seq (.draw [⟨(some 39), 41, .faddr 2 1 (.t 4), none, []⟩, ⟨(some 40), 42, .load false 1 (.t 39), none, []⟩, ⟨(some 41), 43, .mv (.t 10), none, []⟩, ⟨(some 42), 44, .iaddr 3 (.t 40) (.t 41), none, []⟩, ⟨(some 43), 45, .faddr 2 1 (.t 42), none, []⟩, ⟨(some 44), 46, .load false 1 (.t 43), none, []⟩, ⟨(some 45), 47, .mv (.t 12), none, []⟩, ⟨(some 46), 48, .iaddr 1 (.t 44) (.t 45), none, []⟩, ⟨(some 47), 49, .load false 1 (.t 46), none, []⟩, ⟨(some 48), 50, .mv (.t 11), none, []⟩, ⟨(some 49), 51, .load true 4 (.t 7), none, []⟩, ⟨(some 50), 52, .iaddr 4 (.t 47) (.t 48), none, []⟩, ⟨none, 1006012, .store 4 (.t 50) (.t 49), none, []⟩])
 (.seq (.ops [⟨(some 51), 53, .load true 4 (.t 4), none, []⟩, ⟨none, 1007001, .store 4 (.t 8) (.t 51), none, []⟩, ⟨(some 9), 11, .mv (.c (.i .i64 0)), none, []⟩])
 .ret))
 .skip))
 (.seq (.ops [⟨(some 52), 54, .bslice 5 0 [(.i .i64 0), (.i .i64 0), (.i .i64 0), (.f 0), (.f 0)] [], none, []⟩, ⟨(some 13), 15, .mv (.t 52), none, []⟩])
 (.seq (.ops [⟨(some 53), 55, .load true 4 (.t 4), none, []⟩, ⟨(some 54), 56, .mv (.t 10), none, []⟩, ⟨(some 55), 57, .mv (.t 11), none, []⟩, ⟨(some 56), 58, .call 216 [((.t 53), 0), ((.t 54), 0), ((.t 55), 0)], none, []⟩, ⟨(some 14), 16, .mv (.t 56), none, []⟩])
 (.seq (.ops [⟨(some 15), 17, .mv (.c (.b false)), none, []⟩])
 (.seq (.seq (.ops [⟨(some 16), 18, .mv (.c (.i .i64 0)), none, []⟩])
 (.block 0 (.loop (.seq (.seq (.ops [⟨(some 57), 59, .mv (.t 16), none, []⟩, ⟨(some 58), 60, .mv (.t 14), none, []⟩, ⟨(some 59), 61, .len false (.t 58), none, []⟩, ⟨(some 60), 62, .bin .lss (.t 57) (.t 59), none, []⟩])
 (.cond (.t 60)
 .skip
 (.exit 0)))
 (.seq (.block 1 (.seq (.seq (.ops [⟨(some 63), 65, .mv (.t 15), none, []⟩, ⟨(some 64), 66, .un .not (.t 63), none, []⟩, ⟨(some 65), 67, .mv (.t 64), none, []⟩, ⟨(some 66), 68, .mv (.t 14), (some (65, true)), []⟩, ⟨(some 67), 69, .mv (.t 16), (some (65, true)), []⟩, ⟨(some 68), 70, .iaddr 5 (.t 66) (.t 67), (some (65, true)), []⟩, ⟨(some 69), 71, .faddr 0 1 (.t 68), (some (65, true)), []⟩, ⟨(some 70), 72, .load false 1 (.t 69), (some (65, true)), []⟩, ⟨(some 71), 73, .mv (.t 2), (some (65, true)), []⟩, ⟨(some 72), 74, .bin .gtr (.t 70) (.t 71), (some (65, true)), []⟩, ⟨(some 73), 75, .pick (.t 65) (.t 72) (.c (.b false)), none, []⟩])
 (.cond (.t 73)
 (.seq (.ops [⟨(some 74), 76, .mv (.t 13), none, []⟩, ⟨(some 75), 77, .mv (.t 2), none, []⟩, ⟨(some 76), 78, .load true 4 (.t 7), none, []⟩, ⟨(some 77), 79, .build [(.i .i64 0), (.i .i64 0), (.i .i64 0), (.f 0), (.f 0)] [(0, 1, (.t 75)), (1, 4, (.t 76))], none, []⟩, ⟨(some 78), 80, .bslice 5 1 [(.i .i64 0), (.i .i64 0), (.i .i64 0), (.f 0), (.f 0)] [(0, (.t 77))], none, []⟩, ⟨(some 79), 81, .app 5 40 (.t 74) (.t 78), none, []⟩, ⟨(some 13), 15, .mv (.t 79), none, []⟩])
 (.ops [⟨(some 15), 17, .mv (.c (.b true)), none, []⟩]))
 .skip))
 (.ops [⟨(some 80), 82, .mv (.t 13), none, []⟩, ⟨(some 81), 83, .mv (.t 14), none, []⟩, ⟨(some 82), 84, .mv (.t 16), none, []⟩, ⟨(some 83), 85, .iaddr 5 (.t 81) (.t 82), none, []⟩, ⟨(some 84), 86, .load true 5 (.t 83), none, []⟩, ⟨(some 85), 87, .bslice 5 1 [(.i .i64 0), (.i .i64 0), (.i .i64 0), (.f 0), (.f 0)] [(0, (.t 84))], none, []⟩, ⟨(some 86), 88, .app 5 40 (.t 80) (.t 85), none, []⟩, ⟨(some 13), 15, .mv (.t 86), none, []⟩])))
 (.ops [⟨(some 61), 63, .mv (.t 16), none, []⟩, ⟨(some 62), 64, .bin .add (.t 61) (.c (.i .i64 1)), none, []⟩, ⟨(some 16), 18, .mv (.t 62), none, []⟩]))))))
 (.seq (.seq (.ops [⟨(some 87), 89, .mv (.t 15), none, []⟩, ⟨(some 88), 90, .un .not (.t 87), none, []⟩])
 (.cond (.t 88)
 (.ops [⟨(some 89), 91, .mv (.t 13), none, []⟩, ⟨(some 90), 92, .mv (.t 2), none, []⟩, ⟨(some 91), 93, .load true 4 (.t 7), none, []⟩, ⟨(some 92), 94, .build [(.i .i64 0), (.i .i64 0), (.i .i64 0), (.f 0), (.f 0)] [(0, 1, (.t 90)), (1, 4, (.t 91))], none, []⟩, ⟨(some 93), 95, .bslice 5 1 [(.i .i64 0), (.i .i64 0), (.i .i64 0), (.f 0), (.f 0)] [(0, (.t 92))], none, []⟩, ⟨(some 94), 96, .app 5 40 (.t 89) (.t 93), none, []⟩, ⟨(some 13), 15, .mv (.t 94), none, []⟩])
 .skip))
 (.seq (.ops [⟨(some 95), 97, .load true 4 (.t 4), none, []⟩, ⟨(some 96), 98, .mv (.t 10), none, []⟩, ⟨(some 97), 99, .mv (.t 11), none, []⟩, ⟨(some 98), 100, .mv (.t 13), none, []⟩, ⟨(some 99), 101, .call 217 [((.t 95), 0), ((.t 96), 0), ((.t 97), 0), ((.t 98), 0)], none, []⟩, ⟨(some 100), 102, .ext 0 (.t 99), none, []⟩, ⟨(some 101), 103, .ext 1 (.t 99), none, []⟩, ⟨none, 1020007, .store 4 (.t 8) (.t 100), none, []⟩, ⟨(some 9), 11, .mv (.t 101), none, []⟩])
 .ret)))))))))))
theorem k177 : compCode Try.prog Try.f177.ntmps Try.f177.body.get! = some c177 := by kernel_rfl
theorem r177 : resTmps Try.prog Try.f177.results.toList = some [.cell 8 true 4, .tmp 9] := by kernel_rfl
def insC (c : CellP) : List CellP → List CellP
 | [] => [c]
 | x :: xs => if c.1 < x.1 then c :: x :: xs else x :: insC c xs
def noGt (c : Int) (A : List CellP) : Prop := ∀ y ∈ A, ¬ c < y.1
def someGt (c : Int) (A : List CellP) : Prop := ∃ y ∈ A, c < y.1
theorem insC_all {c : CellP} {B : List CellP} : ∀ {A : List CellP}, noGt c.1 A → insC c (A ++ B) = A ++ insC c B
 | [], _ => rfl
 | a :: A, h => by
  simp only [List.cons_append, insC]
  rw [if_neg (h a (by simp)), insC_all fun y hy => h y (by simp [hy])]
theorem insC_some {c : CellP} {B : List CellP} : ∀ {A : List CellP}, someGt c.1 A → insC c (A ++ B) = insC c A ++ B
 | [], h => by obtain ⟨y, hy, _⟩ := h; cases hy
 | a :: A, h => by
  simp only [List.cons_append, insC]
  by_cases h1 : c.1 < a.1
  ·rw [if_pos h1, if_pos h1]; rfl
  ·rw [if_neg h1, if_neg h1]
   obtain ⟨y, hy, h2⟩ := h
   rcases List.mem_cons.1 hy with rfl | hy
   ·exact absurd h2 h1
   ·rw [insC_some ⟨y, hy, h2⟩]; rfl
theorem insC_len (c : CellP) : ∀ A : List CellP, (insC c A).length = A.length + 1
 | [] => rfl
 | a :: A => by
  simp only [insC]
  split
  ·rfl
  ·simp [insC_len c A]
def putUp (c : CellP) (M : List CellP) (j : Nat) (Q : List CellP) (dn : Bool) : Prop := (dn = false ∧ noGt c.1 (M.take j) ∧ Q = M.take j) ∨ (dn = true ∧ someGt c.1 (M.take j) ∧ Q = insC c (M.take j))
theorem putUp.zero (c : CellP) (M : List CellP) : putUp c M 0 [] false := .inl ⟨rfl, fun y hy => by simp at hy, rfl⟩
theorem putUp.len {c : CellP} {M Q : List CellP} {j : Nat} {dn : Bool} (h : putUp c M j Q dn) : Q.length ≤ M.length + 1 := by
 rcases h with ⟨_, _, rfl⟩ | ⟨_, _, rfl⟩
 ·simp; omega
 ·rw [insC_len]; simp; omega
theorem putUp.new {c : CellP} {M Q : List CellP} {j : Nat} {x : CellP} (h : putUp c M j Q false) (hx : M[j]? = some x) (hc : c.1 < x.1) : putUp c M (j + 1) (Q ++ [c] ++ [x]) true := by
 rcases h with ⟨_, h1, rfl⟩ | ⟨h, _⟩
 ·refine .inr ⟨rfl, ⟨x, by rw [take_snoc hx]; simp, hc⟩, ?_⟩
  rw [take_snoc hx, insC_all h1]
  simp [insC, hc]
 ·cases h
theorem putUp.old {c : CellP} {M Q : List CellP} {j : Nat} {x : CellP} {dn : Bool} (h : putUp c M j Q dn) (hx : M[j]? = some x) (hc : dn = true ∨ ¬ c.1 < x.1) : putUp c M (j + 1) (Q ++ [x]) dn := by
 rcases h with ⟨rfl, h1, rfl⟩ | ⟨rfl, ⟨y, hy, h2⟩, rfl⟩
 ·have h2 : ¬ c.1 < x.1 := hc.resolve_left (by decide)
  refine .inl ⟨rfl, fun y hy => ?_, (take_snoc hx).symm⟩
  rw [take_snoc hx] at hy
  rcases List.mem_append.1 hy with hy | hy
  ·exact h1 y hy
  ·rw [List.mem_singleton.1 hy]; exact h2
 ·refine .inr ⟨rfl, ⟨y, by rw [take_snoc hx]; simp [hy], h2⟩, ?_⟩
  rw [take_snoc hx, insC_some ⟨y, hy, h2⟩]
theorem putUp.done {c : CellP} {M Q : List CellP} (h : putUp c M M.length Q true) : Q = insC c M := by
 rcases h with ⟨h, _⟩ | ⟨_, _, h⟩
 ·cases h
 ·rwa [List.take_length] at h
theorem putUp.last {c : CellP} {M Q : List CellP} (h : putUp c M M.length Q false) : Q ++ [c] = insC c M := by
 rcases h with ⟨_, h1, h⟩ | ⟨h, _⟩
 ·rw [List.take_length] at h h1
  rw [h]
  have := insC_all (B := []) h1
  rw [List.append_nil] at this
  rw [this]; rfl
 ·cases h
def setTs (ts : List TableP) (i k m : Nat) (v : ValP) : List TableP := ts.modify i fun t => (t.1, t.2.1, t.2.2.modify m fun vs => vs.set k v)
instance (ts : List TableP) (cols : List Int) : Decidable (fullT ts cols) := by unfold fullT; infer_instance
theorem W217f (g f : List Int) (ts : List TableP) (rs : List ValP) (i k : Nat) (L : List CellP) (hok : ∀ t ∈ ts, t.1.length ≤ 2^36) (hl : ts.length ≤ 2^30) (hL : L.length ≤ 2^36) (hn : fullT ts (colsOf L)) : Contract Try.prog false 217 [.own, .ro, .ro, .ro] [worldO g f ts rs, .i .i64 i, .i .i64 k, .sl false 5 (L.map clT)] [worldO g f ts rs, .i .i64 3] [none, none, none, none] := by
 refine mk_contract [none, none, none, none] Try.func217 (c := Try.f217.body.get!) (by kernel_rfl) k217 r217 (of_decide_eq_true rfl) fun _ => ?_
 have hcl : (colsOf L).length = L.length := by simp [colsOf]
 have hT := W174f g f ts rs (colsOf L) hok (by omega) (by omega) hn
 unfold c217; simp
 refine twp_forR L.length (fun j s => ∃ Q : List Int, isTk (colsOf L) j Q ∧ Q.length = j ∧ s.t 1 = .i .i64 i ∧ s.t 2 = .i .i64 k ∧ s.t 3 = .sl false 5 (L.map clT) ∧ s.t 4 = .pt [(6, 0)] 0 0 ∧ s.t 8 = .pt [(10, 0)] 0 0 ∧ s.t 10 = .rf [(31, 0)] 0 Q.length ∧ s.t 11 = .i .i64 j ∧ s.H = lk [(1, [.junk, .junk, .junk, .junk]), (6, [.po true [.sl true 1 (g.map iT), .sl true 1 (f.map iT), .sl true 3 (ts.map tbO), .sl true 4 (rs.map vT)]]), (10, [.po true [.sl true 1 [], .sl true 1 [], .sl true 3 [], .sl true 4 []]]), (31, [.sl true 1 (Q.map iT)])]) [30] [(17, 31)] (by simp) (by simp) ?_ ?_
 ·refine ⟨[], rfl, rfl, ?_⟩
  simp
 ·rintro j s hj ⟨Q, hQ, hQl, q1, q2, q3, q4, q8, q10, q11, qH⟩
  rw [nf_of qH]
  have hw : IntKind.i64.wrap ((j : Int) + 1) = j + 1 := wrap_id (by omega) (by omega)
  cases hb9 : decide (j < L.length)
  rotate_left
  ·have hlt := of_decide_eq_true hb9
   obtain ⟨x, hx⟩ := get_some hlt
   have hx2 : (colsOf L)[j]? = some x.1 := by simp [colsOf, hx]
   simp [q1, q2, q3, q4, q8, q10, q11, hb9, hx, hw]
   refine ⟨by omega, hlt, Q ++ [x.1], hQ.snoc hx2, by simp [hQl], ?_⟩
   simp
  ·have hge := of_decide_eq_false hb9
   obtain rfl : j = L.length := by omega
   have hQ2 : Q = colsOf L := hQ.trans (List.take_of_length_le (by omega))
   subst hQ2
   simp [q1, q2, q3, q4, q8, q10, q11, hb9]
   refine callW_ms [.ro, .ro] ?_
   simp
   refine callX_of hT (by simp) ?_
   simp [q1, q2, q3, q4, q8, q10, q11]
structure AtP (ts : List TableP) (i k : Nat) (t : TableP) (e : Int × Int) : Prop where
 ht : ts[i]? = some t
 he : t.2.1[k]? = some e
 hw : whereG e ts 0 = ((i : Int), (k : Int))
structure EvenP (ts : List TableP) : Prop where
 n : ts.length ≤ 2^30
 c : ∀ t ∈ ts, t.1.length ≤ 2^30
 r : ∀ t ∈ ts, t.2.1.length ≤ 2^36
 s : ∀ t ∈ ts, t.2.2.length = t.1.length
 v : ∀ t ∈ ts, ∀ v ∈ t.2.2, v.length = t.2.1.length
theorem EvenP.okT {ts : List TableP} (h : EvenP ts) : ∀ t ∈ ts, okT t := fun t ht =>
 ⟨by have := h.c t ht; omega, h.r t ht, by have := h.c t ht; rw [h.s t ht]; omega, fun v hv => by rw [h.v t ht v hv]; exact h.r t ht⟩
def putTs (ts : List TableP) (i k : Nat) (t : TableP) (e : Int × Int) (c : CellP) : List TableP × Int :=
 if 0 ≤ idxF t.1 c.1 then (setTs ts i k (idxF t.1 c.1).toNat c.2, 0)
 else if fullT ts (colsOf (insC c (rowL t k))) then (ts, 3) else (moveTs ts i k e (insC c (rowL t k)), 0)
theorem map_mod2 {α : Type} {f : α → List TV} {l : List α} {k : Nat} {y : α} {g : α → α} {φ : List TV → List TV} (hy : l[k]? = some y) (h : φ (f y) = f (g y)) : (l.map f).modify k φ = (l.modify k g).map f := by
 rw [map_mod hy h]
 congr 1
 apply List.ext_getElem?
 intro i
 have hl := (List.getElem?_eq_some_iff.1 hy).1
 by_cases hi : i = k
 ·subst hi; simp [List.getElem?_modify, hl, hy]
  exact (List.getElem?_eq_some_iff.1 hy).2 ▸ rfl
 ·simp [List.getElem?_set_ne (Ne.symm hi), List.getElem?_modify, Ne.symm hi]
end Go.Proofs.YtmedelmfkciblaaT


namespace Go.Proofs.YtmedelmfkciblaaT
set_option linter.unusedVariables false
set_option linter.unusedSimpArgs false
open Go
def c213 : TCode := (.seq (.ops [⟨(some 1), 3, .box 2 (.t 0), none, []⟩, ⟨(some 2), 4, .box 2 (.c (.ag [(.sl true 1 []), (.sl true 1 [])])), none, []⟩, ⟨(some 3), 5, .box 2 (.c (.ag [(.i .i64 0), (.i .i64 0)])), none, []⟩, ⟨(some 4), 6, .mv (.c (.i .i64 0)), none, []⟩])
 (.seq (.seq (.ops [⟨(some 7), 9, .faddr 1 1 (.t 1), none, []⟩, ⟨(some 8), 10, .load false 1 (.t 7), none, []⟩, ⟨(some 9), 11, .len false (.t 8), none, []⟩, ⟨(some 5), 7, .mv (.t 9), none, []⟩])
 (.seq (.ops [⟨(some 10), 12, .mv (.t 5), none, []⟩, ⟨(some 11), 13, .bin .gtr (.t 10) (.c (.i .i64 0)), none, []⟩])
 (.cond (.t 11)
 (.seq (.ops [⟨(some 12), 14, .faddr 1 1 (.t 1), none, []⟩, ⟨(some 13), 15, .load false 1 (.t 12), none, []⟩, ⟨(some 14), 16, .mv (.t 5), none, []⟩, ⟨(some 15), 17, .bin .sub (.t 14) (.c (.i .i64 1)), none, []⟩, ⟨(some 16), 18, .iaddr 1 (.t 13) (.t 15), none, []⟩, ⟨(some 17), 19, .load false 1 (.t 16), none, []⟩, ⟨(some 6), 8, .mv (.t 17), none, []⟩])
 (.seq (.ops [⟨(some 18), 20, .bslice 1 0 [(.i .i64 0)] [], none, []⟩, ⟨(some 19), 21, .faddr 1 1 (.t 1), none, []⟩, ⟨(some 20), 22, .load false 1 (.t 19), none, []⟩, ⟨(some 21), 23, .mv (.t 5), none, []⟩, ⟨(some 22), 24, .bin .sub (.t 21) (.c (.i .i64 1)), none, []⟩, ⟨(some 23), 25, .slice false 1 (.t 20) none (some (.t 22)), none, []⟩, ⟨(some 24), 26, .app 1 8 (.t 18) (.t 23), none, []⟩, ⟨(some 25), 27, .faddr 1 1 (.t 1), none, []⟩, ⟨none, 1004008, .store 1 (.t 25) (.t 24), none, []⟩])
 (.seq (.draw [⟨(some 26), 28, .load true 2 (.t 1), none, []⟩, ⟨(some 27), 29, .mv (.t 6), none, []⟩, ⟨(some 28), 30, .faddr 0 1 (.t 1), none, []⟩, ⟨(some 29), 31, .load false 1 (.t 28), none, []⟩, ⟨(some 30), 32, .mv (.t 6), none, []⟩, ⟨(some 31), 33, .iaddr 1 (.t 29) (.t 30), none, []⟩, ⟨(some 32), 34, .load false 1 (.t 31), none, []⟩, ⟨(some 33), 35, .build [(.i .i64 0), (.i .i64 0)] [(0, 1, (.t 27)), (1, 1, (.t 32))], none, []⟩, ⟨none, 1005008, .store 2 (.t 2) (.t 26), none, [1000000, 1, 2, 3, 4, 5, 6, 7]⟩, ⟨none, 1005009, .store 2 (.t 3) (.t 33), none, []⟩, ⟨(some 4), 6, .mv (.c (.i .i64 0)), none, []⟩])
 .ret)))
 .skip)))
 (.seq (.seq (.ops [⟨(some 34), 36, .faddr 0 1 (.t 1), none, []⟩, ⟨(some 35), 37, .load false 1 (.t 34), none, []⟩, ⟨(some 36), 38, .len false (.t 35), none, []⟩, ⟨(some 37), 39, .bin .geq (.t 36) (.c (.i .i64 2000)), none, []⟩])
 (.cond (.t 37)
 (.seq (.ops [⟨(some 38), 40, .load true 2 (.t 1), none, []⟩, ⟨(some 39), 41, .build [(.i .i64 0), (.i .i64 0)] [], none, []⟩, ⟨none, 1007002, .store 2 (.t 2) (.t 38), none, []⟩, ⟨none, 1007003, .store 2 (.t 3) (.t 39), none, []⟩, ⟨(some 4), 6, .mv (.c (.i .i64 3)), none, []⟩])
 .ret)
 .skip))
 (.seq (.ops [⟨(some 40), 42, .faddr 0 1 (.t 1), none, []⟩, ⟨(some 41), 43, .load false 1 (.t 40), none, []⟩, ⟨(some 42), 44, .bslice 1 1 [(.i .i64 0)] [(0, (.c (.i .i64 0)))], none, []⟩, ⟨(some 43), 45, .app 1 8 (.t 41) (.t 42), none, []⟩, ⟨(some 44), 46, .faddr 0 1 (.t 1), none, []⟩, ⟨none, 1008005, .store 1 (.t 44) (.t 43), none, []⟩])
 (.seq (.draw [⟨(some 45), 47, .load true 2 (.t 1), none, []⟩, ⟨(some 46), 48, .faddr 0 1 (.t 1), none, []⟩, ⟨(some 47), 49, .load false 1 (.t 46), none, []⟩, ⟨(some 48), 50, .len false (.t 47), none, []⟩, ⟨(some 49), 51, .bin .sub (.t 48) (.c (.i .i64 1)), none, []⟩, ⟨(some 50), 52, .build [(.i .i64 0), (.i .i64 0)] [(0, 1, (.t 49))], none, []⟩, ⟨none, 1009006, .store 2 (.t 2) (.t 45), none, [1000000, 1, 2, 3, 4, 5]⟩, ⟨none, 1009007, .store 2 (.t 3) (.t 50), none, []⟩, ⟨(some 4), 6, .mv (.c (.i .i64 0)), none, []⟩])
 .ret)))))
theorem k213 : compCode Try.prog Try.f213.ntmps Try.f213.body.get! = some c213 := by kernel_rfl
theorem r213 : resTmps Try.prog Try.f213.results.toList = some [.cell 2 true 2, .cell 3 true 2, .tmp 4] := by kernel_rfl
def takeP (g f : List Int) : (List Int × List Int) × (Int × Int) × Int :=
 if f = [] then (if 2000 ≤ g.length then ((g, f), (0, 0), 3) else ((g ++ [0], f), (g.length, 0), 0))
 else ((g, f.dropLast), (f.getLastD 0, g.getD (f.getLastD 0).toNat 0), 0)
theorem takeP_snoc (g f : List Int) (x y : Int) (h : g[x.toNat]? = some y) : takeP g (f ++ [x]) = ((g, f), (x, y), 0) := by
 simp [takeP, h]
theorem w213 (g f : List Int) (hg : g.length ≤ 2^40) (hf : f.length ≤ 2^40) (hx : ∀ x ∈ f, 0 ≤ x ∧ x < g.length) : Contract Try.prog false 213 [.own] [entsO g f] [entsO (takeP g f).1.1 (takeP g f).1.2, entT (takeP g f).2.1.1 (takeP g f).2.1.2, .i .i64 (takeP g f).2.2] [none, none] := by
 refine mk_contract [none, none] Try.func213 (c := Try.f213.body.get!) (by kernel_rfl) k213 r213 (of_decide_eq_true rfl) fun _ => ?_
 rcases List.eq_nil_or_concat f with rfl | ⟨f0, x, rfl⟩
 ·have hw : IntKind.i64.wrap (g.length : Int) = g.length := wrap_id (by omega) (by omega)
  unfold c213; unfold entsO entT; simp
  by_cases h : 2000 ≤ g.length
  ·simp [takeP, h]; omega
  ·simp [takeP, h, hw]
   omega
 ·simp only [List.concat_eq_append] at hf hx ⊢
  obtain ⟨h1, h2⟩ := hx x (by simp)
  obtain ⟨y, hy⟩ : ∃ y, g[x.toNat]? = some y := ⟨g[x.toNat]'(by omega), List.getElem?_eq_getElem (by omega)⟩
  rw [takeP_snoc g f0 x y hy]
  have hf' : f0.length + 1 ≤ 2^40 := by simpa using hf
  have hw : IntKind.i64.wrap (f0.length : Int) = f0.length := wrap_id (by omega) (by omega)
  by_cases h0 : f0 = []
  ·have hw0 : IntKind.i64.wrap 0 = 0 := wrap_id (by omega) (by omega)
   subst h0
   unfold c213; unfold entsO entT; simp [h1, hy, offE, hw0]
   omega
  ·have hO : offE 0 f0.length = 0 := by simp [offE, h0]
   have hT : (List.map iT f0 ++ [[TV.i .i64 x]]).take f0.length = List.map iT f0 := by simp
   unfold c213; unfold entsO entT; simp [hw, h1, hy, hO, hT]
   omega
theorem freeOk_mem {n : Nat} {f : List Int} (h : freeOk n f) : ∀ x ∈ f, 0 ≤ x ∧ x < n := by
 exact h.1
end Go.Proofs.YtmedelmfkciblaaT


namespace Go.Proofs.YtmedelmfkciblaaT
set_option linter.unusedVariables false
set_option linter.unusedSimpArgs false
open Go
def c176 : TCode := (.seq (.ops [⟨(some 2), 4, .box 4 (.t 0), none, []⟩, ⟨(some 4), 6, .box 4 (.c (.ag [(.sl true 1 []), (.sl true 1 []), (.sl true 3 []), (.sl true 4 [])])), none, []⟩, ⟨(some 5), 7, .box 2 (.c (.ag [(.i .i64 0), (.i .i64 0)])), none, []⟩, ⟨(some 6), 8, .mv (.c (.i .i64 0)), none, []⟩])
 (.seq (.ops [⟨(some 16), 18, .faddr 0 2 (.t 2), none, []⟩, ⟨(some 17), 19, .load true 2 (.t 16), none, []⟩, ⟨(some 18), 20, .call 214 [((.t 17), 0)], none, []⟩, ⟨(some 19), 21, .call 213 [((.t 18), 0)], none, []⟩, ⟨(some 15), 17, .mv (.t 19), none, []⟩, ⟨(some 20), 22, .ext 0 (.t 15), none, []⟩, ⟨(some 21), 23, .ext 1 (.t 15), none, []⟩, ⟨(some 22), 24, .ext 2 (.t 15), none, []⟩, ⟨(some 7), 9, .box 2 (.c (.ag [(.sl true 1 []), (.sl true 1 [])])), none, []⟩, ⟨(some 8), 10, .box 2 (.c (.ag [(.i .i64 0), (.i .i64 0)])), none, []⟩, ⟨none, 1001010, .store 2 (.t 7) (.t 20), none, []⟩, ⟨none, 1001011, .store 2 (.t 8) (.t 21), none, []⟩, ⟨(some 9), 11, .mv (.t 22), none, []⟩])
 (.seq (.seq (.ops [⟨(some 23), 25, .mv (.t 9), none, []⟩, ⟨(some 24), 26, .bin .neq (.t 23) (.c (.i .i64 0)), none, []⟩])
 (.cond (.t 24)
 (.seq (.ops [⟨(some 25), 27, .load true 4 (.t 2), none, []⟩, ⟨(some 26), 28, .build [(.i .i64 0), (.i .i64 0)] [], none, []⟩, ⟨none, 1003002, .store 4 (.t 4) (.t 25), none, []⟩, ⟨none, 1003003, .store 2 (.t 5) (.t 26), none, []⟩, ⟨(some 6), 8, .mv (.c (.i .i64 3)), none, []⟩])
 .ret)
 .skip))
 (.seq (.ops [⟨(some 27), 29, .bslice 1 0 [(.i .i64 0)] [], none, []⟩, ⟨(some 10), 12, .mv (.t 27), none, []⟩])
 (.seq (.seq (.ops [⟨(some 11), 13, .mv (.c (.i .i64 0)), none, []⟩])
 (.block 0 (.loop (.seq (.seq (.ops [⟨(some 28), 30, .mv (.t 11), none, []⟩, ⟨(some 29), 31, .mv (.t 1), none, []⟩, ⟨(some 30), 32, .len false (.t 29), none, []⟩, ⟨(some 31), 33, .bin .lss (.t 28) (.t 30), none, []⟩])
 (.cond (.t 31)
 .skip
 (.exit 0)))
 (.seq (.block 1 (.ops [⟨(some 34), 36, .mv (.t 10), none, []⟩, ⟨(some 35), 37, .mv (.t 1), none, []⟩, ⟨(some 36), 38, .mv (.t 11), none, []⟩, ⟨(some 37), 39, .iaddr 5 (.t 35) (.t 36), none, []⟩, ⟨(some 38), 40, .faddr 0 1 (.t 37), none, []⟩, ⟨(some 39), 41, .load false 1 (.t 38), none, []⟩, ⟨(some 40), 42, .bslice 1 1 [(.i .i64 0)] [(0, (.t 39))], none, []⟩, ⟨(some 41), 43, .app 1 8 (.t 34) (.t 40), none, []⟩, ⟨(some 10), 12, .mv (.t 41), none, []⟩]))
 (.ops [⟨(some 32), 34, .mv (.t 11), none, []⟩, ⟨(some 33), 35, .bin .add (.t 32) (.c (.i .i64 1)), none, []⟩, ⟨(some 11), 13, .mv (.t 33), none, []⟩]))))))
 (.seq (.ops [⟨(some 43), 45, .load true 4 (.t 2), none, []⟩, ⟨(some 44), 46, .mv (.t 10), none, []⟩, ⟨(some 45), 47, .call 174 [((.t 43), 0), ((.t 44), 0)], none, []⟩, ⟨(some 42), 44, .mv (.t 45), none, []⟩, ⟨(some 46), 48, .ext 0 (.t 42), none, []⟩, ⟨(some 47), 49, .ext 1 (.t 42), none, []⟩, ⟨(some 12), 14, .box 4 (.c (.ag [(.sl true 1 []), (.sl true 1 []), (.sl true 3 []), (.sl true 4 [])])), none, []⟩, ⟨none, 1009007, .store 4 (.t 12) (.t 46), none, []⟩, ⟨(some 13), 15, .mv (.t 47), none, []⟩])
 (.seq (.seq (.ops [⟨(some 48), 50, .mv (.t 13), none, []⟩, ⟨(some 49), 51, .bin .lss (.t 48) (.c (.i .i64 0)), none, []⟩])
 (.cond (.t 49)
 (.seq (.ops [⟨(some 50), 52, .load true 4 (.t 2), none, []⟩, ⟨(some 51), 53, .build [(.i .i64 0), (.i .i64 0)] [], none, []⟩, ⟨none, 1011002, .store 4 (.t 4) (.t 50), none, []⟩, ⟨none, 1011003, .store 2 (.t 5) (.t 51), none, []⟩, ⟨(some 6), 8, .mv (.c (.i .i64 3)), none, []⟩])
 .ret)
 .skip))
 (.seq (.ops [⟨(some 52), 54, .load true 2 (.t 7), none, []⟩, ⟨(some 53), 55, .faddr 0 2 (.t 12), none, []⟩, ⟨none, 1012002, .store 2 (.t 53) (.t 52), none, []⟩])
 (.seq (.draw [⟨(some 54), 56, .faddr 2 1 (.t 12), none, []⟩, ⟨(some 55), 57, .load false 1 (.t 54), none, []⟩, ⟨(some 56), 58, .mv (.t 13), none, []⟩, ⟨(some 57), 59, .faddr 2 1 (.t 12), none, []⟩, ⟨(some 58), 60, .load false 1 (.t 57), none, []⟩, ⟨(some 59), 61, .mv (.t 13), none, []⟩, ⟨(some 60), 62, .iaddr 3 (.t 58) (.t 59), none, []⟩, ⟨(some 61), 63, .faddr 1 1 (.t 60), none, []⟩, ⟨(some 62), 64, .load false 1 (.t 61), none, []⟩, ⟨(some 63), 65, .load true 2 (.t 8), none, []⟩, ⟨(some 64), 66, .bslice 2 1 [(.i .i64 0), (.i .i64 0)] [(0, (.t 63))], none, [0, 1, 2, 3, 4, 5, 6, 7, 8]⟩, ⟨(some 65), 67, .app 2 16 (.t 62) (.t 64), none, [0, 1, 2]⟩, ⟨(some 66), 68, .iaddr 3 (.t 55) (.t 56), none, []⟩, ⟨(some 67), 69, .faddr 1 1 (.t 66), none, []⟩, ⟨none, 1013014, .store 1 (.t 67) (.t 65), none, []⟩])
 (.seq (.seq (.ops [⟨(some 14), 16, .mv (.c (.i .i64 0)), none, []⟩])
 (.block 2 (.loop (.seq (.seq (.ops [⟨(some 68), 70, .mv (.t 14), none, []⟩, ⟨(some 69), 71, .mv (.t 1), none, []⟩, ⟨(some 70), 72, .len false (.t 69), none, []⟩, ⟨(some 71), 73, .bin .lss (.t 68) (.t 70), none, []⟩])
 (.cond (.t 71)
 .skip
 (.exit 2)))
 (.seq (.block 3 (.draw [⟨(some 74), 76, .faddr 2 1 (.t 12), none, []⟩, ⟨(some 75), 77, .load false 1 (.t 74), none, []⟩, ⟨(some 76), 78, .mv (.t 13), none, []⟩, ⟨(some 77), 79, .iaddr 3 (.t 75) (.t 76), none, []⟩, ⟨(some 78), 80, .faddr 2 1 (.t 77), none, []⟩, ⟨(some 79), 81, .load false 1 (.t 78), none, []⟩, ⟨(some 80), 82, .mv (.t 14), none, []⟩, ⟨(some 81), 83, .faddr 2 1 (.t 12), none, []⟩, ⟨(some 82), 84, .load false 1 (.t 81), none, []⟩, ⟨(some 83), 85, .mv (.t 13), none, []⟩, ⟨(some 84), 86, .iaddr 3 (.t 82) (.t 83), none, []⟩, ⟨(some 85), 87, .faddr 2 1 (.t 84), none, []⟩, ⟨(some 86), 88, .load false 1 (.t 85), none, []⟩, ⟨(some 87), 89, .mv (.t 14), none, []⟩, ⟨(some 88), 90, .iaddr 1 (.t 86) (.t 87), none, []⟩, ⟨(some 89), 91, .load false 1 (.t 88), none, []⟩, ⟨(some 90), 92, .mv (.t 1), none, []⟩, ⟨(some 91), 93, .mv (.t 14), none, []⟩, ⟨(some 92), 94, .iaddr 5 (.t 90) (.t 91), none, []⟩, ⟨(some 93), 95, .faddr 1 4 (.t 92), none, []⟩, ⟨(some 94), 96, .load true 4 (.t 93), none, []⟩, ⟨(some 95), 97, .bslice 4 1 [(.i .i64 0), (.i .i64 0), (.f 0), (.f 0)] [(0, (.t 94))], none, [0, 1, 2, 3, 4, 5, 6, 7, 8, 9, 10, 11, 12, 13, 14, 15]⟩, ⟨(some 96), 98, .app 4 32 (.t 89) (.t 95), none, [0, 1, 2, 3, 4, 5, 6]⟩, ⟨(some 97), 99, .iaddr 1 (.t 79) (.t 80), none, []⟩, ⟨none, 1017024, .store 1 (.t 97) (.t 96), none, []⟩]))
 (.ops [⟨(some 72), 74, .mv (.t 14), none, []⟩, ⟨(some 73), 75, .bin .add (.t 72) (.c (.i .i64 1)), none, []⟩, ⟨(some 14), 16, .mv (.t 73), none, []⟩]))))))
 (.seq (.draw [⟨(some 98), 100, .load true 4 (.t 12), none, []⟩, ⟨(some 99), 101, .load true 2 (.t 8), none, []⟩, ⟨none, 1018002, .store 4 (.t 4) (.t 98), none, [1000000, 1]⟩, ⟨none, 1018003, .store 2 (.t 5) (.t 99), none, []⟩, ⟨(some 6), 8, .mv (.c (.i .i64 0)), none, []⟩])
 .ret)))))))))))
theorem k176 : compCode Try.prog Try.f176.ntmps Try.f176.body.get! = some c176 := by kernel_rfl
theorem r176 : resTmps Try.prog Try.f176.results.toList = some [.cell 4 true 4, .cell 5 true 2, .tmp 6] := by kernel_rfl
def spawnTs (ts : List TableP) (e : Int × Int) (L : List CellP) : List TableP := (tabW ts (colsOf L)).1.modify (tabW ts (colsOf L)).2 fun t => joinT t e L
def spawnP (g f : List Int) (ts : List TableP) (L : List CellP) : (List Int × List Int × List TableP) × (Int × Int) × Int :=
 if (takeP g f).2.2 = 0 ∧ ¬ fullT ts (colsOf L) then (((takeP g f).1.1, (takeP g f).1.2, spawnTs ts (takeP g f).2.1 L), (takeP g f).2.1, 0) else ((g, f, ts), (0, 0), 3)
set_option maxHeartbeats 4000000 in
set_option maxRecDepth 100000 in
theorem w176 (g f : List Int) (ts : List TableP) (rs : List ValP) (L : List CellP) (hg : g.length ≤ 2^36) (hf : f.length ≤ 2^36) (hx : ∀ x ∈ f, 0 ≤ x ∧ x < g.length) (E : EvenP ts) (hL : L.length ≤ 2^30) : Contract Try.prog false 176 [.own, .ro] [worldO g f ts rs, .sl false 5 (L.map clT)] [worldO (spawnP g f ts L).1.1 (spawnP g f ts L).1.2.1 (spawnP g f ts L).1.2.2 rs, .ag (eT (spawnP g f ts L).2.1), .i .i64 (spawnP g f ts L).2.2] [none, none, none, none] := by
 refine mk_contract [none, none, none, none] Try.func176 (c := Try.f176.body.get!) (by kernel_rfl) k176 r176 (of_decide_eq_true rfl) fun _ => ?_
 have hcl : (colsOf L).length = L.length := by simp [colsOf]
 have hCp := w214 g f (by omega) (by omega)
 have hTk := w213 g f (by omega) (by omega) hx
 have hl := E.n
 have hok : ∀ t ∈ ts, t.1.length ≤ 2^36 := fun t ht => by have := E.c t ht; omega
 have hto := E.r
 have hC := E.s
 have hv := E.v
 unfold spawnP
 generalize takeP g f = p at *
 obtain ⟨⟨g2, f2⟩, e, code⟩ := p
 simp only at hTk ⊢
 unfold entsO entsR entT at *
 by_cases hc0 : code = 0
 rotate_left
 ·rw [if_neg fun h => hc0 h.1]
  unfold c176; simp
  refine callW_ms [.ro] ?_
  simp
  refine callX_of hCp (by simp) ?_
  simp
  refine callW_ms [.own] ?_
  simp
  refine callX_of hTk (by simp) ?_
  simp [hc0]
 subst hc0
 by_cases hfu : fullT ts (colsOf L)
 ·rw [if_neg fun h => h.2 hfu]
  have hT := W174f g f ts rs (colsOf L) hok (by omega) (by omega) hfu
  unfold c176; simp
  refine callW_ms [.ro] ?_
  simp
  refine callX_of hCp (by simp) ?_
  simp
  refine callW_ms [.own] ?_
  simp
  refine callX_of hTk (by simp) ?_
  simp
  refine twp_forR L.length (fun j s => ∃ Q : List Int, isTk (colsOf L) j Q ∧ Q.length = j ∧ s.t 1 = .sl false 5 (L.map clT) ∧ s.t 2 = .pt [(4, 0)] 0 0 ∧ s.t 4 = .pt [(6, 0)] 0 0 ∧ s.t 5 = .pt [(7, 0)] 0 0 ∧ s.t 7 = .pt [(9, 0)] 0 0 ∧ s.t 8 = .pt [(10, 0)] 0 0 ∧ s.t 10 = .rf [(43, 0)] 0 Q.length ∧ s.t 11 = .i .i64 j ∧ s.H = lk [(1, [.junk, .junk, .junk, .junk]), (4, [.po true [.sl true 1 (g.map iT), .sl true 1 (f.map iT), .sl true 3 (ts.map tbO), .sl true 4 (rs.map vT)]]), (6, [.po true [.sl true 1 [], .sl true 1 [], .sl true 3 [], .sl true 4 []]]), (7, [.po true [.i .i64 0, .i .i64 0]]), (9, [.po true [.sl true 1 (g2.map iT), .sl true 1 (f2.map iT)]]), (10, [.po true [.i .i64 e.1, .i .i64 e.2]]), (43, [.sl true 1 (Q.map iT)])]) [20, 21, 42] [(29, 43)] (by simp) (by simp) ?_ ?_
  ·refine ⟨[], rfl, rfl, ?_⟩
   simp
  ·rintro j s hj ⟨Q, hQ, hQl, q1, q2, q4, q5, q7, q8, q10, q11, qH⟩
   rw [nf_of qH]
   have hw : IntKind.i64.wrap ((j : Int) + 1) = j + 1 := wrap_id (by omega) (by omega)
   cases hb9 : decide (j < L.length)
   rotate_left
   ·have hlt := of_decide_eq_true hb9
    obtain ⟨x, hx⟩ := get_some hlt
    have hx2 : (colsOf L)[j]? = some x.1 := by simp [colsOf, hx]
    simp [q1, q2, q4, q5, q7, q8, q10, q11, hb9, hx, hw]
    refine ⟨by omega, hlt, Q ++ [x.1], hQ.snoc hx2, by simp [hQl], ?_⟩
    simp
   ·have hge := of_decide_eq_false hb9
    obtain rfl : j = L.length := by omega
    have hQ2 : Q = colsOf L := hQ.trans (List.take_of_length_le (by omega))
    subst hQ2
    simp [q1, q2, q4, q5, q7, q8, q10, q11, hb9]
    refine callW_ms [.ro, .ro] ?_
    simp
    refine callX_of hT (by simp) ?_
    simp [q1, q2, q4, q5, q7, q8, q10, q11]
 ·rw [if_pos ⟨rfl, hfu⟩]
  have hT := w174 g f ts rs (colsOf L) hok (by omega) (by omega) hfu
  obtain ⟨A, B, T2, e1, e2, e3, e6, e7, e8⟩ : ∃ (A B : List TableP) (T2 : TableP), (tabW ts (colsOf L)).1 = A ++ T2 :: B ∧ (tabW ts (colsOf L)).2 = A.length ∧ T2.1 = colsOf L ∧ T2.2.2.length = L.length ∧ T2.2.1.length ≤ 2^36 ∧ (∀ v ∈ T2.2.2, v.length = T2.2.1.length) ∧ (A.length ≤ 2^30 ∧ B.length ≤ 2^30) := by
   unfold tabW
   by_cases hix : 0 ≤ tabIx ts (colsOf L)
   ·rw [if_pos hix]
    obtain ⟨j, T2, h1, h2, h3⟩ : ∃ (j : Nat) (T2 : TableP), tabIx ts (colsOf L) = j ∧ ts[j]? = some T2 ∧ T2.1 = colsOf L := tabIx_at hix
    have hm := List.mem_of_getElem? h2
    obtain ⟨s1, s2⟩ := split_at h2
    have hjl := (List.getElem?_eq_some_iff.1 h2).1
    refine ⟨ts.take j, ts.drop (j + 1), T2, s1, by rw [s2, h1]; rfl, h3, by rw [hC T2 hm, h3, hcl], hto T2 hm, hv T2 hm, by simp; omega, by simp; omega⟩
   ·rw [if_neg hix]
    refine ⟨ts, [], newT (colsOf L), rfl, rfl, rfl, by simp [newT, hcl], by simp [newT], ?_, hl, by simp⟩
    ·intro v hv; simp [newT] at hv; rw [hv.2]; rfl
  obtain ⟨T21, T22, T23⟩ := T2
  simp only at e1 e2 e3 e6 e7 e8
  subst e3
  rw [e1, e2] at hT
  have hM : spawnTs ts e L = A ++ joinT (colsOf L, T22, T23) e L :: B := by
   unfold spawnTs
   rw [e1, e2, modify_mid rfl]
  simp only [hM]
  clear hM e1 e2
  unfold c176; simp
  refine callW_ms [.ro] ?_
  simp
  refine callX_of hCp (by simp) ?_
  simp
  refine callW_ms [.own] ?_
  simp
  refine callX_of hTk (by simp) ?_
  simp
  refine twp_forR L.length (fun j s => ∃ Q : List Int, isTk (colsOf L) j Q ∧ Q.length = j ∧ s.t 1 = .sl false 5 (L.map clT) ∧ s.t 2 = .pt [(4, 0)] 0 0 ∧ s.t 4 = .pt [(6, 0)] 0 0 ∧ s.t 5 = .pt [(7, 0)] 0 0 ∧ s.t 7 = .pt [(9, 0)] 0 0 ∧ s.t 8 = .pt [(10, 0)] 0 0 ∧ s.t 10 = .rf [(43, 0)] 0 Q.length ∧ s.t 11 = .i .i64 j ∧ s.H = lk [(1, [.junk, .junk, .junk, .junk]), (4, [.po true [.sl true 1 (g.map iT), .sl true 1 (f.map iT), .sl true 3 (ts.map tbO), .sl true 4 (rs.map vT)]]), (6, [.po true [.sl true 1 [], .sl true 1 [], .sl true 3 [], .sl true 4 []]]), (7, [.po true [.i .i64 0, .i .i64 0]]), (9, [.po true [.sl true 1 (g2.map iT), .sl true 1 (f2.map iT)]]), (10, [.po true [.i .i64 e.1, .i .i64 e.2]]), (43, [.sl true 1 (Q.map iT)])]) [20, 21, 42] [(29, 43)] (by simp) (by simp) ?_ ?_
  ·refine ⟨[], rfl, rfl, ?_⟩
   simp
  ·rintro j s hj ⟨Q, hQ, hQl, q1, q2, q4, q5, q7, q8, q10, q11, qH⟩
   rw [nf_of qH]
   have hw : IntKind.i64.wrap ((j : Int) + 1) = j + 1 := wrap_id (by omega) (by omega)
   cases hb9 : decide (j < L.length)
   rotate_left
   ·have hlt := of_decide_eq_true hb9
    obtain ⟨x, hx⟩ := get_some hlt
    have hx2 : (colsOf L)[j]? = some x.1 := by simp [colsOf, hx]
    simp [q1, q2, q4, q5, q7, q8, q10, q11, hb9, hx, hw]
    refine ⟨by omega, hlt, Q ++ [x.1], hQ.snoc hx2, by simp [hQl], ?_⟩
    simp
   ·have hge := of_decide_eq_false hb9
    obtain rfl : j = L.length := by omega
    have hQ2 : Q = colsOf L := hQ.trans (List.take_of_length_le (by omega))
    subst hQ2
    simp [q1, q2, q4, q5, q7, q8, q10, q11, hb9]
    refine callW_ms [.own, .ro] ?_
    simp
    refine callX_of hT (by simp) ?_
    have hA0 : ¬ ((A.length : Int) < 0) := by omega
    simp [q1, q2, q4, q5, q7, q8, q10, q11, hA0]
    obtain ⟨e8, e9, e10⟩ := e8
    refine ⟨by omega, by omega, by omega, ?_⟩
    obtain ⟨R, hR⟩ : ∃ R, R = T22 ++ [e] := ⟨_, rfl⟩
    have eR : List.map eT T22 ++ [[TV.i .i64 e.1, TV.i .i64 e.2]] = R.map eT := by rw [hR]; simp
    rw [eR]
    have hJ : joinT (colsOf L, T22, T23) e L = (colsOf L, R, List.zipWith (fun vs x => vs ++ [x.2]) T23 L) := by rw [hR]; rfl
    rw [hJ]
    clear hT hQ hQl hJ
    refine twp_for L.length (fun j s => ∃ Z : List (List ValP), isZip T23 L j Z ∧ Z.length = j ∧ s.t 1 = .sl false 5 (L.map clT) ∧ s.t 4 = .pt [(6, 0)] 0 0 ∧ s.t 5 = .pt [(7, 0)] 0 0 ∧ s.t 8 = .pt [(10, 0)] 0 0 ∧ s.t 12 = .pt [(14, 0)] 0 0 ∧ s.t 13 = .i .i64 A.length ∧ s.t 14 = .i .i64 j ∧ s.H = lk [(1, [.junk, .junk, .junk, .junk]), (4, [.po true [.junk, .junk, .junk, .junk]]), (6, [.po true [.sl true 1 [], .sl true 1 [], .sl true 3 [], .sl true 4 []]]), (7, [.po true [.i .i64 0, .i .i64 0]]), (9, [.po true [.junk, .junk]]), (10, [.po true [.i .i64 e.1, .i .i64 e.2]]), (14, [.po true [.sl true 1 (g2.map iT), .sl true 1 (f2.map iT), .sl true 3 (A.map tbO ++ [.sl true 1 ((colsOf L).map iT), .sl true 2 (R.map eT), .sl true 1 (Z.map cvO ++ (T23.map cvO).drop j)] :: B.map tbO), .sl true 4 (rs.map vT)]])]) [43, 47, 66, 67, 97, 98] (by simp) ?_ ?_
    ·refine ⟨[], rfl, rfl, ?_⟩
     simp [q1, q2, q4, q5, q7, q8, q10, q11]
    ·rintro j s hj ⟨Z, hZ, hZl, q1, q4, q5, q8, q12, q13, q14, qH⟩
     rw [nf_of qH]
     have hw : IntKind.i64.wrap ((j : Int) + 1) = j + 1 := wrap_id (by omega) (by omega)
     cases hb9 : decide (j < L.length)
     ·have hge := of_decide_eq_false hb9
      obtain rfl : j = L.length := by omega
      have hd : (T23.map cvO).drop L.length = [] := List.drop_eq_nil_of_le (by simp; omega)
      have hZ2 : Z = List.zipWith (fun vs x => vs ++ [x.2]) T23 L := Eq.trans hZ (zipUp_all e6)
      rw [← hZ2]
      simp [q1, q4, q5, q8, q12, q13, q14, hb9, hd]
     ·have hlt := of_decide_eq_true hb9
      obtain ⟨x, hx⟩ := get_some hlt
      obtain ⟨vs, hvs⟩ : ∃ vs, T23[j]? = some vs := get_some (by omega)
      have hvl := e8 vs (List.mem_of_getElem? hvs)
      simp [q1, q4, q5, q8, q12, q13, q14, hb9, hx, hw, drop_at hvs, hZl]
      refine ⟨by omega, by omega, by omega, by omega, hlt, Z ++ [vs ++ [x.2]], ?_, by simp [hZl], ?_⟩
      ·unfold isZip at hZ ⊢
       rw [hZ, zipUp_succ hvs hx]
      ·simp
end Go.Proofs.YtmedelmfkciblaaT


namespace Go.Proofs.YtmedelmfkciblaaT
set_option linter.unusedVariables false
set_option linter.unusedSimpArgs false
open Go
def c85 : TCode := (.seq (.ops [⟨(some 2), 4, .box 3 (.t 0), none, []⟩, ⟨(some 4), 6, .mv (.c (.sl true 5 [])), none, []⟩, ⟨(some 5), 7, .mv (.c (.b false)), none, []⟩])
 (.seq (.seq (.ops [⟨(some 10), 12, .mv (.t 1), none, []⟩, ⟨(some 11), 13, .len false (.t 10), none, []⟩, ⟨(some 12), 14, .faddr 0 1 (.t 2), none, []⟩, ⟨(some 13), 15, .load false 1 (.t 12), none, []⟩, ⟨(some 14), 16, .len false (.t 13), none, []⟩, ⟨(some 15), 17, .bin .gtr (.t 11) (.t 14), none, []⟩])
 (.cond (.t 15)
 (.seq (.ops [⟨(some 4), 6, .mv (.c (.sl true 5 [])), none, []⟩, ⟨(some 5), 7, .mv (.c (.b false)), none, []⟩])
 .ret)
 .skip))
 (.seq (.ops [⟨(some 16), 18, .bslice 5 0 [(.i .i64 0), (.i .i64 0), (.i .i64 0), (.f 0), (.f 0)] [], none, []⟩, ⟨(some 6), 8, .mv (.t 16), none, []⟩])
 (.seq (.seq (.ops [⟨(some 7), 9, .mv (.c (.i .i64 0)), none, []⟩])
 (.block 0 (.loop (.seq (.seq (.ops [⟨(some 17), 19, .mv (.t 7), none, []⟩, ⟨(some 18), 20, .faddr 0 1 (.t 2), none, []⟩, ⟨(some 19), 21, .load false 1 (.t 18), none, []⟩, ⟨(some 20), 22, .len false (.t 19), none, []⟩, ⟨(some 21), 23, .bin .lss (.t 17) (.t 20), none, []⟩])
 (.cond (.t 21)
 .skip
 (.exit 0)))
 (.seq (.block 1 (.seq (.ops [⟨(some 8), 10, .mv (.c (.i .i64 0)), none, []⟩])
 (.block 2 (.loop (.seq (.seq (.ops [⟨(some 24), 26, .mv (.t 8), none, []⟩, ⟨(some 25), 27, .mv (.t 1), none, []⟩, ⟨(some 26), 28, .len false (.t 25), none, []⟩, ⟨(some 27), 29, .bin .lss (.t 24) (.t 26), none, []⟩])
 (.cond (.t 27)
 .skip
 (.exit 2)))
 (.seq (.block 3 (.seq (.ops [⟨(some 30), 32, .mv (.t 1), none, []⟩, ⟨(some 31), 33, .mv (.t 8), none, []⟩, ⟨(some 32), 34, .iaddr 5 (.t 30) (.t 31), none, []⟩, ⟨(some 33), 35, .faddr 0 1 (.t 32), none, []⟩, ⟨(some 34), 36, .load false 1 (.t 33), none, []⟩, ⟨(some 35), 37, .mv (.t 7), none, []⟩, ⟨(some 36), 38, .bin .eql (.t 34) (.t 35), none, []⟩])
 (.cond (.t 36)
 (.ops [⟨(some 37), 39, .mv (.t 6), none, []⟩, ⟨(some 38), 40, .mv (.t 1), none, []⟩, ⟨(some 39), 41, .mv (.t 8), none, []⟩, ⟨(some 40), 42, .iaddr 5 (.t 38) (.t 39), none, []⟩, ⟨(some 41), 43, .load true 5 (.t 40), none, []⟩, ⟨(some 42), 44, .bslice 5 1 [(.i .i64 0), (.i .i64 0), (.i .i64 0), (.f 0), (.f 0)] [(0, (.t 41))], none, []⟩, ⟨(some 43), 45, .app 5 40 (.t 37) (.t 42), none, []⟩, ⟨(some 6), 8, .mv (.t 43), none, []⟩])
 .skip)))
 (.ops [⟨(some 28), 30, .mv (.t 8), none, []⟩, ⟨(some 29), 31, .bin .add (.t 28) (.c (.i .i64 1)), none, []⟩, ⟨(some 8), 10, .mv (.t 29), none, []⟩])))))))
 (.ops [⟨(some 22), 24, .mv (.t 7), none, []⟩, ⟨(some 23), 25, .bin .add (.t 22) (.c (.i .i64 1)), none, []⟩, ⟨(some 7), 9, .mv (.t 23), none, []⟩]))))))
 (.seq (.seq (.ops [⟨(some 9), 11, .mv (.c (.i .i64 0)), none, []⟩])
 (.block 4 (.loop (.seq (.seq (.ops [⟨(some 44), 46, .mv (.t 9), none, []⟩, ⟨(some 45), 47, .mv (.t 6), none, []⟩, ⟨(some 46), 48, .len false (.t 45), none, []⟩, ⟨(some 47), 49, .bin .lss (.t 44) (.t 46), none, []⟩])
 (.cond (.t 47)
 .skip
 (.exit 4)))
 (.seq (.block 5 (.seq (.draw [⟨(some 50), 52, .load true 3 (.t 2), none, []⟩, ⟨(some 51), 53, .mv (.t 6), none, []⟩, ⟨(some 52), 54, .mv (.t 9), none, []⟩, ⟨(some 53), 55, .iaddr 5 (.t 51) (.t 52), none, []⟩, ⟨(some 54), 56, .faddr 0 1 (.t 53), none, []⟩, ⟨(some 55), 57, .load false 1 (.t 54), none, []⟩, ⟨(some 56), 58, .mv (.t 6), none, []⟩, ⟨(some 57), 59, .mv (.t 9), none, []⟩, ⟨(some 58), 60, .iaddr 5 (.t 56) (.t 57), none, []⟩, ⟨(some 59), 61, .faddr 1 4 (.t 58), none, []⟩, ⟨(some 60), 62, .load true 4 (.t 59), none, []⟩, ⟨(some 61), 63, .call 86 [((.t 50), 0), ((.t 55), 0), ((.t 60), 0)], none, []⟩, ⟨(some 62), 64, .un .not (.t 61), none, []⟩, ⟨(some 63), 65, .mv (.t 62), none, []⟩, ⟨(some 64), 66, .mv (.t 9), (some (63, false)), []⟩, ⟨(some 65), 67, .bin .gtr (.t 64) (.c (.i .i64 0)), (some (63, false)), []⟩, ⟨(some 66), 68, .mv (.t 65), (some (63, false)), []⟩, ⟨(some 67), 69, .mv (.t 6), (some (66, true)), []⟩, ⟨(some 68), 70, .mv (.t 9), (some (66, true)), []⟩, ⟨(some 69), 71, .bin .sub (.t 68) (.c (.i .i64 1)), (some (66, true)), []⟩, ⟨(some 70), 72, .iaddr 5 (.t 67) (.t 69), (some (66, true)), []⟩, ⟨(some 71), 73, .faddr 0 1 (.t 70), (some (66, true)), []⟩, ⟨(some 72), 74, .load false 1 (.t 71), (some (66, true)), []⟩, ⟨(some 73), 75, .mv (.t 6), (some (66, true)), []⟩, ⟨(some 74), 76, .mv (.t 9), (some (66, true)), []⟩, ⟨(some 75), 77, .iaddr 5 (.t 73) (.t 74), (some (66, true)), []⟩, ⟨(some 76), 78, .faddr 0 1 (.t 75), (some (66, true)), []⟩, ⟨(some 77), 79, .load false 1 (.t 76), (some (66, true)), []⟩, ⟨(some 78), 80, .bin .eql (.t 72) (.t 77), (some (66, true)), []⟩, ⟨(some 79), 81, .pick (.t 66) (.t 78) (.c (.b false)), (some (63, false)), []⟩, ⟨(some 80), 82, .pick (.t 63) (.c (.b true)) (.t 79), none, []⟩])
 (.cond (.t 80)
 (.seq (.ops [⟨(some 4), 6, .mv (.c (.sl true 5 [])), none, []⟩, ⟨(some 5), 7, .mv (.c (.b false)), none, []⟩])
 .ret)
 .skip)))
 (.ops [⟨(some 48), 50, .mv (.t 9), none, []⟩, ⟨(some 49), 51, .bin .add (.t 48) (.c (.i .i64 1)), none, []⟩, ⟨(some 9), 11, .mv (.t 49), none, []⟩]))))))
 (.seq (.ops [⟨(some 81), 83, .mv (.t 6), none, []⟩, ⟨(some 82), 84, .mv (.t 6), none, []⟩, ⟨(some 83), 85, .len false (.t 82), none, []⟩, ⟨(some 84), 86, .mv (.t 1), none, []⟩, ⟨(some 85), 87, .len false (.t 84), none, []⟩, ⟨(some 86), 88, .bin .eql (.t 83) (.t 85), none, []⟩, ⟨(some 4), 6, .mv (.t 81), none, []⟩, ⟨(some 5), 7, .mv (.t 86), none, []⟩])
 .ret))))))
theorem k85 : compCode Try.prog Try.f85.ntmps Try.f85.body.get! = some c85 := by kernel_rfl
theorem r85 : resTmps Try.prog Try.f85.results.toList = some [.tmp 4, .tmp 5] := by kernel_rfl
abbrev DclP := ByteArray × Int
def isC (k : Nat) (x : CellP) : Bool := decide (x.1 = (k : Int))
def inC (n : Nat) (x : CellP) : Bool := decide (0 ≤ x.1 ∧ x.1 < (n : Int))
def sortC : Nat → List CellP → List CellP
 | 0, _ => []
 | n + 1, l => sortC n l ++ l.filter (isC n)
theorem perm_or {α : Type} {p q r : α → Bool} (h : ∀ x, ¬ (p x = true ∧ q x = true)) (hr : ∀ x, r x = (p x || q x)) : ∀ l : List α, (l.filter p ++ l.filter q).Perm (l.filter r)
 | [] => by simp
 | x :: l => by
  have ih := perm_or h hr l
  have hx := h x
  have hrx := hr x
  cases hp : p x with
  | true =>
   cases hq : q x with
   | true => exact absurd ⟨hp, hq⟩ hx
   | false =>
    rw [hp, hq] at hrx
    simp only [List.filter_cons, hp, hq, hrx, Bool.or_false, if_true, List.cons_append]
    exact ih.cons x
  | false =>
   cases hq : q x with
   | true =>
    rw [hp, hq] at hrx
    simp only [List.filter_cons, hp, hq, hrx, Bool.or_true, if_true]
    exact List.perm_middle.trans (ih.cons x)
   | false =>
    rw [hp, hq] at hrx
    simp only [List.filter_cons, hp, hq, hrx, Bool.or_false]
    exact ih
theorem sortC_perm (l : List CellP) : ∀ n : Nat, (sortC n l).Perm (l.filter (inC n))
 | 0 => by
  have : l.filter (inC 0) = [] := by rw [List.filter_eq_nil_iff]; intro x _; simp [inC]
  rw [this]; exact List.Perm.refl _
 | n + 1 => by
  refine ((sortC_perm l n).append_right _).trans (perm_or (fun x h => ?_) (fun x => ?_) l)
  ·simp [inC, isC] at h; omega
  ·rw [Bool.eq_iff_iff]; simp [inC, isC]; omega
theorem sortC_len (n : Nat) (l : List CellP) : (sortC n l).length ≤ l.length := by
 rw [(sortC_perm l n).length_eq]; exact List.length_filter_le _ _
theorem sortC_mem {n : Nat} {l : List CellP} {x : CellP} (h : x ∈ sortC n l) : x ∈ l ∧ 0 ≤ x.1 ∧ x.1 < n := by
 have := (sortC_perm l n).mem_iff.1 h
 rw [List.mem_filter] at this
 exact ⟨this.1, by simpa [inC] using this.2⟩
def badAt (c : List DclP) (o : List CellP) (j : Nat) : Prop := ∃ y, o[j]? = some y ∧ (¬ fitP c y.1 y.2 ∨ (0 < j ∧ ∃ x, o[j - 1]? = some x ∧ x.1 = y.1))
noncomputable instance (c : List DclP) (o : List CellP) : Decidable (∀ j, ¬ badAt c o j) := Classical.propDecidable _
noncomputable def l4S (c : List DclP) (l : List CellP) : List CellP × Bool :=
 if c.length < l.length then ([], false) else if ∀ j, ¬ badAt c (sortC c.length l) j then (sortC c.length l, decide ((sortC c.length l).length = l.length)) else ([], false)
theorem filt_at {α : Type} {p : α → Bool} {l : List α} {x : α} {i : Nat} (h : l[i]? = some x) : (l.take (i + 1)).filter p = (l.take i).filter p ++ (if p x then [x] else []) := by
 rw [take_snoc h, List.filter_append]; congr 1
 cases hp : p x <;> simp [hp]
theorem sortC_part (j i : Nat) (l : List CellP) : (sortC j l ++ (l.take i).filter (isC j)).length ≤ l.length := by
 have h1 := sortC_len (j + 1) l
 have h2 : ((l.take i).filter (isC j)).length ≤ (l.filter (isC j)).length := ((List.take_sublist i l).filter _).length_le
 simp only [sortC, List.length_append] at h1 ⊢
 omega
theorem w85 (c r e : List DclP) (l : List CellP) (hc : c.length ≤ 2^40) (hl : l.length ≤ 2^36) (hf : ∀ x ∈ l, valOkF x.2) : Contract Try.prog false 85 [.ro, .ro] [regR c r e, .sl false 5 (l.map clT)] [.sl true 5 ((l4S c l).1.map clT), .b (l4S c l).2] [] := by
 refine mk_contract [] Try.func85 (c := Try.f85.body.get!) (by kernel_rfl) k85 r85 (of_decide_eq_true rfl) fun _ => ?_
 unfold c85; unfold regR; simp
 refine ⟨fun hlen => ?_, fun hlen => ?_⟩
 ·simp [l4S, hlen]
 refine twp_post (fun sz => sz.t 1 = .sl false 5 (l.map clT) ∧ sz.t 2 = .pt [(4, 0)] 0 0 ∧ sz.t 6 = .rf [(45, 0)] 0 (sortC c.length l).length ∧ sz.H = lk [(1, []), (4, [.po true [.sl false 2 (c.map dT), .sl false 2 (r.map dT), .sl false 2 (e.map dT)]]), (45, [.sl true 5 ((sortC c.length l).map clT)])]) ?_ ?_
 ·refine twp_forR c.length (fun j s => s.t 1 = .sl false 5 (l.map clT) ∧ s.t 2 = .pt [(4, 0)] 0 0 ∧ s.t 6 = .rf [(45, 0)] 0 (sortC j l).length ∧ s.t 7 = .i .i64 j ∧ s.H = lk [(1, []), (4, [.po true [.sl false 2 (c.map dT), .sl false 2 (r.map dT), .sl false 2 (e.map dT)]]), (45, [.sl true 5 ((sortC j l).map clT)])]) [44] [(18, 45)] (by simp) (by simp) ?_ ?_
  ·simp [sortC]
  ·rintro j s hj ⟨q1, q2, q6, q7, qH⟩
   rw [nf_of qH]
   simp [q1, q2, q6, q7]
   refine ⟨fun hlt => ?_, fun hge => ?_⟩
   ·have hw : IntKind.i64.wrap (j + 1) = j + 1 := wrap_id (by omega) (by omega)
    refine twp_for l.length (fun i s2 => s2.t 1 = .sl false 5 (l.map clT) ∧ s2.t 2 = .pt [(4, 0)] 0 0 ∧ s2.t 6 = .rf [(45, 0)] 0 (sortC j l ++ (l.take i).filter (isC j)).length ∧ s2.t 7 = .i .i64 j ∧ s2.t 8 = .i .i64 i ∧ s2.H = lk [(1, []), (4, [.po true [.sl false 2 (c.map dT), .sl false 2 (r.map dT), .sl false 2 (e.map dT)]]), (45, [.sl true 5 ((sortC j l ++ (l.take i).filter (isC j)).map clT)])]) [44] (by simp) ?_ ?_
    ·simp [q1, q2, q6, q7]
    ·rintro i s2 hi ⟨p1, p2, p6, p7, p8, pH⟩
     rw [nf_of pH]
     simp [p1, p2, p6, p7, p8]
     refine ⟨fun hlt2 => ?_, fun hge2 => ?_⟩
     ·have hwi : IntKind.i64.wrap (i + 1) = i + 1 := wrap_id (by omega) (by omega)
      obtain ⟨x, hx⟩ := get_some hlt2
      have hat := filt_at (p := isC j) hx
      have hpl := sortC_part j (i + 1) l
      simp only [List.length_append] at hpl
      simp [hx, hwi, p1, p2, p6, p7, p8]
      by_cases hxj : x.1 = j
      ·rw [if_pos (by simp [isC, hxj])] at hat
       rw [hat] at hpl
       simp at hpl
       simp [hxj, hx, hwi, p1, p2, p6, p7, p8, hat]
       exact ⟨by omega, hlt2, by omega⟩
      ·rw [if_neg (by simp [isC, hxj]), List.append_nil] at hat
       simp [hxj, hwi, p1, p2, p6, p7, p8, hat]
       exact hlt2
     ·obtain rfl : i = l.length := by omega
      simp [p1, p2, p6, p7, p8, hw]
      refine ⟨hlt, by simp [sortC], by simp [sortC]⟩
   ·obtain rfl : j = c.length := by omega
    simp [q1, q2, q6, q7]
 ·rintro sz ⟨z1, z2, z6, zH⟩
  rw [nf_of zH]
  simp [z1, z2, z6]
  have hS : l4S c l = if ∀ j, ¬ badAt c (sortC c.length l) j then (sortC c.length l, decide ((sortC c.length l).length = l.length)) else ([], false) := by
   unfold l4S; rw [if_neg (by omega)]
  have ho : ∀ x ∈ sortC c.length l, valOkF x.2 := fun x hx => hf x (sortC_mem hx).1
  have hol := sortC_len c.length l
  rw [hS]
  generalize sortC c.length l = o at *
  have hno : ∀ m, badAt c o m → (if ∀ j, ¬ badAt c o j then (o, decide (o.length = l.length)) else ([], false)) = (([], false) : List CellP × Bool) := fun m hm => if_neg fun h => h m hm
  refine twp_for o.length (fun j s => s.t 1 = .sl false 5 (l.map clT) ∧ s.t 2 = .pt [(4, 0)] 0 0 ∧ s.t 6 = .rf [(45, 0)] 0 o.length ∧ s.t 9 = .i .i64 j ∧ (∀ i, i < j → ¬ badAt c o i) ∧ s.H = lk [(1, []), (4, [.po true [.sl false 2 (c.map dT), .sl false 2 (r.map dT), .sl false 2 (e.map dT)]]), (45, [.sl true 5 (o.map clT)])]) [] (by simp) ?_ ?_
  ·simp [z1, z2, z6]
  ·rintro j s hj ⟨q1, q2, q6, q9, hg, qH⟩
   rw [nf_of qH]
   simp [q1, q2, q6, q9]
   refine ⟨fun hlt => ?_, fun hge => ?_⟩
   ·have hw : IntKind.i64.wrap (j + 1) = j + 1 := wrap_id (by omega) (by omega)
    obtain ⟨y, hy⟩ := get_some hlt
    simp [hy, hw, q1, q2, q6, q9]
    refine ⟨hlt, ?_⟩
    by_cases hfit : fitP c y.1 y.2
    ·have hstep : (∀ i, i < j → ¬ badAt c o i) → ¬ badAt c o j → ∀ i, i < j + 1 → ¬ badAt c o i := fun h1 h2 i hi => by
      rcases Nat.lt_or_ge i j with h3 | h3
      ·exact h1 i h3
      ·obtain rfl : i = j := by omega
       exact h2
     rcases Nat.eq_zero_or_pos j with h0 | h0
     ·subst h0
      refine callW_ms [.ro, .ro, .ro] ?_
      simp [regR, valV]
      refine callX_of ((w86 c r e y.1 y.2 (ho y (List.mem_of_getElem? hy)) hc).t hfit) (by simp) ?_
      simp [hw, q1, q2, q6, q9, hy]
      refine ⟨hlt, by decide, ?_⟩
      rintro ⟨y', hy', hb | ⟨hb, _⟩⟩
      ·rw [hy] at hy'; cases hy'; exact hb hfit
      ·omega
     ·obtain ⟨k, rfl⟩ : ∃ k, j = k + 1 := ⟨j - 1, by omega⟩
      have hwk : IntKind.i64.wrap (k : Int) = k := wrap_id (by omega) (by omega)
      have hpos : (0 : Int) < (k : Int) + 1 := by omega
      obtain ⟨u, hu⟩ := get_some (l := o) (j := k) (by omega)
      refine callW_ms [.ro, .ro, .ro] ?_
      simp [regR, valV]
      refine callX_of ((w86 c r e y.1 y.2 (ho y (List.mem_of_getElem? hy)) hc).t hfit) (by simp) ?_
      simp [hw, q1, q2, q6, q9, hy, hpos, hwk, hu]
      refine ⟨by omega, by omega, by omega, fun he => ?_, fun he => ⟨by omega, wrap_id (by omega) (by omega), hstep hg ?_⟩⟩
      ·rw [hno (k + 1) ⟨y, hy, .inr ⟨by omega, u, by simpa using hu, he⟩⟩]
       exact ⟨rfl, rfl⟩
      ·rintro ⟨y', hy', hb | ⟨_, x', hx', hxy⟩⟩
       ·rw [hy] at hy'; cases hy'; exact hb hfit
       ·rw [hy] at hy'; cases hy'
        simp at hx'
        rw [hu] at hx'; cases hx'; exact he hxy
    ·refine callW_ms [.ro, .ro, .ro] ?_
     simp [regR, valV]
     refine callX_of ((w86 c r e y.1 y.2 (ho y (List.mem_of_getElem? hy)) hc).f hfit) (by simp) ?_
     simp [hw, q1, q2, q6, q9]
     rw [hno j ⟨y, hy, .inl hfit⟩]
     exact ⟨rfl, rfl⟩
   ·obtain rfl : j = o.length := by omega
    have hall : ∀ j, ¬ badAt c o j := fun i => by
     by_cases hi : i < o.length
     ·exact hg i hi
     ·rintro ⟨y, hy, _⟩
      rw [List.getElem?_eq_none (by omega)] at hy; cases hy
    rw [if_pos hall]
    simp [q1, q2, q6, q9]
    omega
def vOkL (L : List CellP) : Prop := ∀ y ∈ L, valOkF y.2
theorem vOkL.nil : vOkL [] := fun y h => by cases h
theorem vOkL.snoc {L : List CellP} {x : CellP} (h : vOkL L) (hx : valOkF x.2) : vOkL (L ++ [x]) := fun y hy => by
 rcases List.mem_append.1 hy with hy | hy
 ·exact h y hy
 ·rw [List.mem_singleton.1 hy]; exact hx
theorem vOkL.set {L : List CellP} {x : CellP} {k : Nat} (h : vOkL L) (hx : valOkF x.2) : vOkL (L.set k x) := fun y hy => by
 rcases List.mem_or_eq_of_mem_set hy with hy | rfl
 ·exact h y hy
 ·exact hx
theorem l4S_len (c : List DclP) (l : List CellP) : (l4S c l).1.length ≤ l.length := by
 unfold l4S
 split
 ·simp
 ·split
  ·exact sortC_len _ _
  ·simp
theorem l4S_ok {c : List DclP} {l : List CellP} (h : vOkL l) : vOkL (l4S c l).1 := by
 unfold l4S
 split
 ·exact vOkL.nil
 ·split
  ·exact fun y hy => h y (sortC_mem hy).1
  ·exact vOkL.nil
end Go.Proofs.YtmedelmfkciblaaT


namespace Go.Proofs.YtmedelmfkciblaaT
set_option linter.unusedVariables false
set_option linter.unusedSimpArgs false
open Go
def ahS (g f : List Int) : Nat → List Int × List Int
 | 0 => (g, f)
 | j + 1 => (takeP (ahS g f j).1 (ahS g f j).2).1
structure AhI (g f : List Int) (j : Nat) : Prop where
 hg : (ahS g f j).1.length ≤ 2000
 hx : ∀ x ∈ (ahS g f j).2, 0 ≤ x ∧ x < (ahS g f j).1.length
 hr : (ahS g f j).2.length + (2000 - (ahS g f j).1.length) = f.length + (2000 - g.length) - j
theorem AhI.zero {g f : List Int} (h : EntsOkP g f) : AhI g f 0 := ⟨h.2.2, freeOk_mem h.2.1, rfl⟩
theorem AhI.succ {g f : List Int} {j : Nat} (h : AhI g f j) (hj : j < f.length + (2000 - g.length)) : AhI g f (j + 1) := by
 obtain ⟨h1, h2, h3⟩ := h
 have e : ahS g f (j + 1) = (takeP (ahS g f j).1 (ahS g f j).2).1 := rfl
 by_cases hf : (ahS g f j).2 = []
 ·rw [hf] at h3
  simp only [List.length_nil] at h3
  have hg : ¬ 2000 ≤ (ahS g f j).1.length := by omega
  have e2 : ahS g f (j + 1) = ((ahS g f j).1 ++ [0], []) := by rw [e]; simp [takeP, hf, hg]
  refine ⟨?_, ?_, ?_⟩ <;> rw [e2] <;> simp <;> omega
 ·have : 0 < (ahS g f j).2.length := List.length_pos_iff.2 hf
  have e2 : ahS g f (j + 1) = ((ahS g f j).1, (ahS g f j).2.dropLast) := by rw [e]; simp [takeP, hf]
  refine ⟨?_, ?_, ?_⟩ <;> rw [e2]
  ·exact h1
  ·exact fun x hx => h2 x (List.dropLast_subset _ hx)
  ·simp only [List.length_dropLast]; omega
end Go.Proofs.YtmedelmfkciblaaT


namespace Go.Proofs.YtmedelmfkciblaaT
set_option linter.unusedVariables false
set_option linter.unusedSimpArgs false
open Go
def c20 : TCode := (.seq (.ops [⟨(some 2), 4, .mv (.c (.b false)), none, []⟩])
 (.seq (.ops [⟨(some 3), 5, .mv (.t 0), none, []⟩, ⟨(some 4), 6, .len false (.t 3), none, []⟩, ⟨(some 5), 7, .bin .gtr (.t 4) (.c (.i .i64 1048576)), none, []⟩, ⟨(some 2), 4, .mv (.t 5), none, []⟩])
 .ret))
theorem k20 : compCode Try.prog Try.f20.ntmps Try.f20.body.get! = some c20 := by kernel_rfl
theorem r20 : resTmps Try.prog Try.f20.results.toList = some [.tmp 2] := by kernel_rfl
def c71 : TCode := (.seq (.ops [⟨(some 2), 4, .mv (.c .np), none, []⟩])
 (.seq (.ops [⟨(some 5), 7, .mv (.t 0), none, []⟩, ⟨(some 6), 8, .len false (.t 5), none, []⟩, ⟨(some 7), 9, .bin .add (.c (.i .i64 70070)) (.t 6), none, []⟩, ⟨(some 3), 5, .mv (.t 7), none, []⟩])
 (.seq (.seq (.ops [⟨(some 4), 6, .mv (.c (.i .i64 0)), none, []⟩])
 (.block 0 (.loop (.seq (.seq (.ops [⟨(some 8), 10, .mv (.t 4), none, []⟩, ⟨(some 9), 11, .mv (.t 0), none, []⟩, ⟨(some 10), 12, .len false (.t 9), none, []⟩, ⟨(some 11), 13, .bin .lss (.t 8) (.t 10), none, []⟩, ⟨(some 12), 14, .mv (.t 11), none, []⟩, ⟨(some 13), 15, .mv (.t 4), (some (12, true)), []⟩, ⟨(some 14), 16, .bin .lss (.t 13) (.c (.i .i64 4000)), (some (12, true)), []⟩, ⟨(some 15), 17, .pick (.t 12) (.t 14) (.c (.b false)), none, []⟩])
 (.cond (.t 15)
 .skip
 (.exit 0)))
 (.seq (.block 1 (.ops [⟨(some 18), 20, .mv (.t 3), none, []⟩, ⟨(some 19), 21, .bin .mul (.t 18) (.c (.i .i64 131)), none, []⟩, ⟨(some 20), 22, .mv (.t 0), none, []⟩, ⟨(some 21), 23, .mv (.t 4), none, []⟩, ⟨(some 22), 24, .iaddr 1 (.t 20) (.t 21), none, []⟩, ⟨(some 23), 25, .load false 1 (.t 22), none, []⟩, ⟨(some 24), 26, .toInt .i64 (.t 23), none, []⟩, ⟨(some 25), 27, .bin .add (.t 19) (.t 24), none, []⟩, ⟨(some 26), 28, .bin .add (.t 25) (.c (.i .i64 7)), none, []⟩, ⟨(some 27), 29, .bin .and (.t 26) (.c (.i .i64 1073741823)), none, []⟩, ⟨(some 3), 5, .mv (.t 27), none, []⟩]))
 (.ops [⟨(some 16), 18, .mv (.t 4), none, []⟩, ⟨(some 17), 19, .bin .add (.t 16) (.c (.i .i64 1)), none, []⟩, ⟨(some 4), 6, .mv (.t 17), none, []⟩]))))))
 (.seq (.ops [⟨(some 28), 30, .mv (.t 0), none, []⟩, ⟨(some 29), 31, .mv (.t 3), none, []⟩, ⟨(some 30), 32, .build [(.sl true 1 []), (.i .i64 0), (.i .i64 0)] [(0, 1, (.t 28)), (2, 1, (.t 29))], none, []⟩, ⟨(some 31), 33, .box 3 (.t 30), none, []⟩, ⟨(some 2), 4, .mv (.t 31), none, []⟩])
 .ret))))
theorem k71 : compCode Try.prog Try.f71.ntmps Try.f71.body.get! = some c71 := by kernel_rfl
theorem r71 : resTmps Try.prog Try.f71.results.toList = some [.tmp 2] := by kernel_rfl
def c183 : TCode := (.seq (.ops [⟨(some 2), 4, .mv (.c (.i .i64 0)), none, []⟩])
 (.seq (.ops [⟨(some 4), 6, .mv (.t 0), none, []⟩, ⟨(some 5), 7, .mv (.t 0), none, []⟩, ⟨(some 6), 8, .nilck (.t 5), none, []⟩, ⟨(some 7), 9, .faddr 2 1 (.t 6), none, []⟩, ⟨(some 8), 10, .load false 1 (.t 7), none, []⟩, ⟨(some 9), 11, .bin .mul (.t 8) (.c (.i .i64 6364136223846793005)), none, []⟩, ⟨(some 10), 12, .bin .add (.t 9) (.c (.i .i64 1442695040888963407)), none, []⟩, ⟨(some 11), 13, .nilck (.t 4), none, []⟩, ⟨(some 12), 14, .faddr 2 1 (.t 11), none, []⟩, ⟨none, 1001009, .store 1 (.t 12) (.t 10), none, []⟩])
 (.seq (.draw [⟨(some 13), 15, .mv (.t 0), none, []⟩, ⟨(some 14), 16, .nilck (.t 13), none, []⟩, ⟨(some 15), 17, .faddr 2 1 (.t 14), none, []⟩, ⟨(some 16), 18, .load false 1 (.t 15), none, []⟩, ⟨(some 17), 19, .bin .shr (.t 16) (.c (.i .u64 33)), none, []⟩, ⟨(some 18), 20, .mv (.t 0), none, []⟩, ⟨(some 19), 21, .nilck (.t 18), none, []⟩, ⟨(some 20), 22, .faddr 2 1 (.t 19), none, []⟩, ⟨(some 21), 23, .load false 1 (.t 20), none, []⟩, ⟨(some 22), 24, .bin .shr (.t 21) (.c (.i .u64 45)), none, []⟩, ⟨(some 23), 25, .bin .xor (.t 17) (.t 22), none, []⟩, ⟨(some 24), 26, .bin .and (.t 23) (.c (.i .i64 255)), none, []⟩, ⟨(some 3), 5, .mv (.t 24), none, []⟩])
 (.seq (.seq (.draw [⟨(some 25), 27, .mv (.t 0), none, []⟩, ⟨(some 26), 28, .nilck (.t 25), none, []⟩, ⟨(some 27), 29, .faddr 1 1 (.t 26), none, []⟩, ⟨(some 28), 30, .load false 1 (.t 27), none, []⟩, ⟨(some 29), 31, .mv (.t 0), none, []⟩, ⟨(some 30), 32, .nilck (.t 29), none, []⟩, ⟨(some 31), 33, .faddr 0 1 (.t 30), none, []⟩, ⟨(some 32), 34, .load false 1 (.t 31), none, []⟩, ⟨(some 33), 35, .len false (.t 32), none, []⟩, ⟨(some 34), 36, .bin .lss (.t 28) (.t 33), none, []⟩])
 (.cond (.t 34)
 (.seq (.draw [⟨(some 35), 37, .mv (.t 3), none, []⟩, ⟨(some 36), 38, .mv (.t 0), none, []⟩, ⟨(some 37), 39, .nilck (.t 36), none, []⟩, ⟨(some 38), 40, .faddr 0 1 (.t 37), none, []⟩, ⟨(some 39), 41, .load false 1 (.t 38), none, []⟩, ⟨(some 40), 42, .mv (.t 0), none, []⟩, ⟨(some 41), 43, .nilck (.t 40), none, []⟩, ⟨(some 42), 44, .faddr 1 1 (.t 41), none, []⟩, ⟨(some 43), 45, .load false 1 (.t 42), none, []⟩, ⟨(some 44), 46, .iaddr 1 (.t 39) (.t 43), none, []⟩, ⟨(some 45), 47, .load false 1 (.t 44), none, []⟩, ⟨(some 46), 48, .toInt .i64 (.t 45), none, []⟩, ⟨(some 47), 49, .bin .add (.t 35) (.t 46), none, []⟩, ⟨(some 48), 50, .bin .and (.t 47) (.c (.i .i64 255)), none, []⟩, ⟨(some 3), 5, .mv (.t 48), none, []⟩])
 (.ops [⟨(some 49), 51, .mv (.t 0), none, []⟩, ⟨(some 50), 52, .mv (.t 0), none, []⟩, ⟨(some 51), 53, .nilck (.t 50), none, []⟩, ⟨(some 52), 54, .faddr 1 1 (.t 51), none, []⟩, ⟨(some 53), 55, .load false 1 (.t 52), none, []⟩, ⟨(some 54), 56, .bin .add (.t 53) (.c (.i .i64 1)), none, []⟩, ⟨(some 55), 57, .nilck (.t 49), none, []⟩, ⟨(some 56), 58, .faddr 1 1 (.t 55), none, []⟩, ⟨none, 1005008, .store 1 (.t 56) (.t 54), none, []⟩]))
 .skip))
 (.seq (.ops [⟨(some 57), 59, .mv (.t 3), none, []⟩, ⟨(some 2), 4, .mv (.t 57), none, []⟩])
 .ret)))))
theorem k183 : compCode Try.prog Try.f183.ntmps Try.f183.body.get! = some c183 := by kernel_rfl
theorem r183 : resTmps Try.prog Try.f183.results.toList = some [.tmp 2] := by kernel_rfl
def c142 : TCode := (.seq (.ops [⟨(some 4), 6, .mv (.c (.i .i64 0)), none, []⟩])
 (.seq (.seq (.ops [⟨(some 9), 11, .mv (.t 1), none, []⟩, ⟨(some 10), 12, .bin .leq (.t 9) (.c (.i .i64 0)), none, []⟩])
 (.cond (.t 10)
 (.seq (.ops [⟨(some 4), 6, .mv (.c (.i .i64 0)), none, []⟩])
 .ret)
 .skip))
 (.seq (.seq (.ops [⟨(some 11), 13, .mv (.t 1), none, []⟩, ⟨(some 12), 14, .bin .leq (.t 11) (.c (.i .i64 256)), none, []⟩])
 (.cond (.t 12)
 (.seq (.ops [⟨(some 13), 15, .mv (.t 0), none, []⟩, ⟨(some 14), 16, .call 183 [((.t 13), 3)], none, []⟩, ⟨(some 15), 17, .mv (.t 1), none, []⟩, ⟨(some 16), 18, .bin .rem (.t 14) (.t 15), none, []⟩, ⟨(some 4), 6, .mv (.t 16), none, []⟩])
 .ret)
 .skip))
 (.seq (.ops [⟨(some 17), 19, .mv (.t 0), none, []⟩, ⟨(some 18), 20, .call 183 [((.t 17), 3)], none, []⟩, ⟨(some 5), 7, .mv (.t 18), none, []⟩])
 (.seq (.ops [⟨(some 19), 21, .mv (.t 0), none, []⟩, ⟨(some 20), 22, .call 183 [((.t 19), 3)], none, []⟩, ⟨(some 6), 8, .mv (.t 20), none, []⟩])
 (.seq (.ops [⟨(some 21), 23, .mv (.t 0), none, []⟩, ⟨(some 22), 24, .call 183 [((.t 21), 3)], none, []⟩, ⟨(some 7), 9, .mv (.t 22), none, []⟩])
 (.seq (.ops [⟨(some 23), 25, .mv (.t 0), none, []⟩, ⟨(some 24), 26, .call 183 [((.t 23), 3)], none, []⟩, ⟨(some 8), 10, .mv (.t 24), none, []⟩])
 (.seq (.ops [⟨(some 25), 27, .mv (.t 5), none, []⟩, ⟨(some 26), 28, .bin .mul (.t 25) (.c (.i .i64 16777216)), none, []⟩, ⟨(some 27), 29, .mv (.t 6), none, []⟩, ⟨(some 28), 30, .bin .mul (.t 27) (.c (.i .i64 65536)), none, []⟩, ⟨(some 29), 31, .bin .add (.t 26) (.t 28), none, []⟩, ⟨(some 30), 32, .mv (.t 7), none, []⟩, ⟨(some 31), 33, .bin .mul (.t 30) (.c (.i .i64 256)), none, []⟩, ⟨(some 32), 34, .bin .add (.t 29) (.t 31), none, []⟩, ⟨(some 33), 35, .mv (.t 8), none, []⟩, ⟨(some 34), 36, .bin .add (.t 32) (.t 33), none, []⟩, ⟨(some 35), 37, .mv (.t 1), none, []⟩, ⟨(some 36), 38, .bin .rem (.t 34) (.t 35), none, []⟩, ⟨(some 4), 6, .mv (.t 36), none, []⟩])
 .ret))))))))
theorem k142 : compCode Try.prog Try.f142.ntmps Try.f142.body.get! = some c142 := by kernel_rfl
theorem r142 : resTmps Try.prog Try.f142.results.toList = some [.tmp 4] := by kernel_rfl
def c132 : TCode := (.seq (.ops [⟨(some 4), 6, .mv (.c (.b false)), none, []⟩])
 (.seq (.ops [⟨(some 5), 7, .mv (.t 0), none, []⟩, ⟨(some 6), 8, .mv (.t 1), none, []⟩, ⟨(some 7), 9, .call 142 [((.t 5), 3), ((.t 6), 0)], none, []⟩, ⟨(some 8), 10, .bin .eql (.t 7) (.c (.i .i64 0)), none, []⟩, ⟨(some 4), 6, .mv (.t 8), none, []⟩])
 .ret))
theorem k132 : compCode Try.prog Try.f132.ntmps Try.f132.body.get! = some c132 := by kernel_rfl
theorem r132 : resTmps Try.prog Try.f132.results.toList = some [.tmp 4] := by kernel_rfl
def c171 : TCode := (.seq (.ops [⟨(some 4), 6, .mv (.c (.i .i64 0)), none, []⟩])
 (.seq (.ops [⟨(some 5), 7, .mv (.t 1), none, []⟩, ⟨(some 6), 8, .mv (.t 0), none, []⟩, ⟨(some 7), 9, .mv (.t 1), none, []⟩, ⟨(some 8), 10, .len false (.t 7), none, []⟩, ⟨(some 9), 11, .call 142 [((.t 6), 3), ((.t 8), 0)], none, []⟩, ⟨(some 10), 12, .iaddr 1 (.t 5) (.t 9), none, []⟩, ⟨(some 11), 13, .load false 1 (.t 10), none, []⟩, ⟨(some 4), 6, .mv (.t 11), none, []⟩])
 .ret))
theorem k171 : compCode Try.prog Try.f171.ntmps Try.f171.body.get! = some c171 := by kernel_rfl
theorem r171 : resTmps Try.prog Try.f171.results.toList = some [.tmp 4] := by kernel_rfl
def c172 : TCode := (.seq (.ops [⟨(some 4), 6, .mv (.c (.s ⟨#[]⟩)), none, []⟩])
 (.seq (.ops [⟨(some 5), 7, .mv (.t 1), none, []⟩, ⟨(some 6), 8, .mv (.t 0), none, []⟩, ⟨(some 7), 9, .mv (.t 1), none, []⟩, ⟨(some 8), 10, .len false (.t 7), none, []⟩, ⟨(some 9), 11, .call 142 [((.t 6), 3), ((.t 8), 0)], none, []⟩, ⟨(some 10), 12, .iaddr 1 (.t 5) (.t 9), none, []⟩, ⟨(some 11), 13, .load false 1 (.t 10), none, []⟩, ⟨(some 4), 6, .mv (.t 11), none, []⟩])
 .ret))
theorem k172 : compCode Try.prog Try.f172.ntmps Try.f172.body.get! = some c172 := by kernel_rfl
theorem r172 : resTmps Try.prog Try.f172.results.toList = some [.tmp 4] := by kernel_rfl
@[simp] def uT (n : Int) : List TV := [.i .u8 n]
@[simp] theorem fzL_uT (n : Int) : fzL (uT n) = uT n := rfl
@[simp] theorem fzLL_uT (l : List (Int)) : fzLL (l.map uT) = l.map uT := fzLL_map fzL_uT l
@[simp] theorem noROLL_uT (l : List (Int)) : noROLL (l.map uT) = true := noROLL_map (fun _ => rfl) l
@[simp] theorem noref_uT (l : List (Int)) : (l.map uT).all (·.all noref) = true := noref_map (fun _ => rfl) l
@[simp] theorem srcT_uT (H : Hp) (z : Nat) (l : List (Int)) : srcT H (.sl false z (l.map uT)) = some (z, l.map uT, H, []) := by simp only [srcT, noref_uT, if_true]
theorem w20 (bs : List Int) : Contract Try.prog false 20 [.ro] [.sl false 1 (bs.map uT)] [.b (decide (1048576 < bs.length))] [] := by
 refine mk_contract [] Try.func20 (c := Try.f20.body.get!) (by kernel_rfl) k20 r20 (of_decide_eq_true rfl) fun _ => ?_
 unfold c20; simp
 omega
def curT (bs : List Int) (i : Nat) (h : Int) : TV := .po true [.sl false 1 (bs.map uT), .i .i64 i, .i .i64 h]
def byteF (n : Nat) : Int := IntKind.i64.wrap ((n &&& 255 % 2 ^ IntKind.i64.bits : Nat) : Int)
theorem byteF_in (n : Nat) : 0 ≤ byteF n ∧ byteF n ≤ 255 := by
 have h : n &&& 255 % 2 ^ IntKind.i64.bits ≤ 255 := Nat.le_trans Nat.and_le_right (by decide)
 unfold byteF
 rw [wrap_id (by omega) (by omega)]
 omega
@[simp] theorem byteF_eq (n : Nat) : IntKind.i64.wrap ((n &&& 255 % 2 ^ IntKind.i64.bits : Nat) : Int) = byteF n := rfl
theorem w183 (bs : List Int) (i : Nat) (h : Int) (hb : bs.length ≤ 2^40) (hi : i ≤ bs.length) : ∃ x : Nat × Int × Int, (x.1 ≤ bs.length ∧ 0 ≤ x.2.2 ∧ x.2.2 ≤ 255) ∧ Contract Try.prog true 183 [.own] [curT bs i h] [.i .i64 x.2.2] [some (curT bs x.1 x.2.1)] := by
 refine mk_contractE [some [(1, 0)]] Try.func183 (c := Try.f183.body.get!) (by kernel_rfl) k183 r183 (of_decide_eq_true rfl) ?_
 unfold c183; unfold curT; simp
 have hw : IntKind.i64.wrap ((i : Int) + 1) = i + 1 := wrap_id (by omega) (by omega)
 refine ⟨fun hlt => ?_, fun hge => ?_⟩
 ·obtain ⟨b, hbb⟩ := get_some hlt
  simp [hbb, hw]
  generalize IntKind.i64.wrap (IntKind.i64.wrap (h * 6364136223846793005) + 1442695040888963407) = h2
  generalize byteF (IntKind.i64.wrap ↑((h2.fdiv (2 ^ min 33 IntKind.i64.bits) % 2 ^ IntKind.i64.bits).toNat ^^^ (h2.fdiv (2 ^ min 45 IntKind.i64.bits) % 2 ^ IntKind.i64.bits).toNat) % 2 ^ IntKind.i64.bits).toNat = x1
  obtain ⟨y, hy⟩ : ∃ y, y = byteF (IntKind.i64.wrap (x1 + IntKind.i64.wrap b) % 2 ^ IntKind.i64.bits).toNat := ⟨_, rfl⟩
  have hy2 := byteF_in (IntKind.i64.wrap (x1 + IntKind.i64.wrap b) % 2 ^ IntKind.i64.bits).toNat
  rw [← hy] at hy2 ⊢
  refine exK_of (i + 1, h2, y) ⟨hlt, hy2.1, hy2.2⟩ ?_
  simp
 ·generalize IntKind.i64.wrap (IntKind.i64.wrap (h * 6364136223846793005) + 1442695040888963407) = h2
  have hy2 := byteF_in (IntKind.i64.wrap ↑((h2.fdiv (2 ^ min 33 IntKind.i64.bits) % 2 ^ IntKind.i64.bits).toNat ^^^ (h2.fdiv (2 ^ min 45 IntKind.i64.bits) % 2 ^ IntKind.i64.bits).toNat) % 2 ^ IntKind.i64.bits).toNat
  generalize byteF (IntKind.i64.wrap ↑((h2.fdiv (2 ^ min 33 IntKind.i64.bits) % 2 ^ IntKind.i64.bits).toNat ^^^ (h2.fdiv (2 ^ min 45 IntKind.i64.bits) % 2 ^ IntKind.i64.bits).toNat) % 2 ^ IntKind.i64.bits).toNat = y at *
  refine exK_of (i, h2, y) ⟨hi, hy2.1, hy2.2⟩ ?_
  simp
theorem tmod_in {a n : Int} (ha : 0 ≤ a) (hn : 0 < n) : 0 ≤ a.tmod n ∧ a.tmod n < n := ⟨Int.tmod_nonneg _ ha, Int.tmod_lt_of_pos _ hn⟩
set_option maxRecDepth 100000 in
theorem w142 (bs : List Int) (i : Nat) (h n : Int) (hb : bs.length ≤ 2^40) (hi : i ≤ bs.length) : ∃ x : Nat × Int × Int, (x.1 ≤ bs.length ∧ 0 ≤ x.2.2 ∧ (0 < n → x.2.2 < n)) ∧ Contract Try.prog true 142 [.own, .ro] [curT bs i h, .i .i64 n] [.i .i64 x.2.2] [some (curT bs x.1 x.2.1)] := by
 refine mk_contractE [some [(1, 0)]] Try.func142 (c := Try.f142.body.get!) (by kernel_rfl) k142 r142 (of_decide_eq_true rfl) ?_
 unfold c142; unfold curT; simp
 refine ⟨fun hn0 => ?_, fun hn0 => ?_⟩
 ·refine exK_of (i, h, 0) ⟨hi, Int.le_refl 0, fun h2 => by omega⟩ ?_
  simp
 refine ⟨fun hn1 => ?_, fun hn1 => ?_⟩
 ·obtain ⟨⟨i1, h1, y⟩, ⟨a1, a2, a3⟩, hC⟩ := w183 bs i h hb hi
  simp only at a1 a2 a3 hC
  unfold curT at hC
  refine callW_ms [.own] ?_
  simp
  refine callX_of hC (by simp) ?_
  have hm := tmod_in a2 (show 0 < n by omega)
  simp
  refine ⟨by omega, exK_of (i1, h1, y.tmod n) ⟨a1, hm.1, fun _ => hm.2⟩ ?_⟩
  simp
 ·obtain ⟨⟨i1, h1, y1⟩, ⟨a1, b1, c1⟩, hC1⟩ := w183 bs i h hb hi
  simp only at a1 b1 c1 hC1
  unfold curT at hC1
  refine callW_ms [.own] ?_
  simp
  refine callX_of hC1 (by simp) ?_
  simp
  obtain ⟨⟨i2, h2, y2⟩, ⟨a2, b2, c2⟩, hC2⟩ := w183 bs i1 h1 hb a1
  simp only at a2 b2 c2 hC2
  unfold curT at hC2
  refine callW_ms [.own] ?_
  simp
  refine callX_of hC2 (by simp) ?_
  simp
  obtain ⟨⟨i3, h3, y3⟩, ⟨a3, b3, c3⟩, hC3⟩ := w183 bs i2 h2 hb a2
  simp only at a3 b3 c3 hC3
  unfold curT at hC3
  refine callW_ms [.own] ?_
  simp
  refine callX_of hC3 (by simp) ?_
  simp
  obtain ⟨⟨i4, h4, y4⟩, ⟨a4, b4, c4⟩, hC4⟩ := w183 bs i3 h3 hb a3
  simp only at a4 b4 c4 hC4
  unfold curT at hC4
  refine callW_ms [.own] ?_
  simp
  refine callX_of hC4 (by simp) ?_
  have w1 : IntKind.i64.wrap (y1 * 16777216) = y1 * 16777216 := wrap_id (by omega) (by omega)
  have w2 : IntKind.i64.wrap (y2 * 65536) = y2 * 65536 := wrap_id (by omega) (by omega)
  have w3 : IntKind.i64.wrap (y3 * 256) = y3 * 256 := wrap_id (by omega) (by omega)
  have w4 : IntKind.i64.wrap (y1 * 16777216 + y2 * 65536) = y1 * 16777216 + y2 * 65536 := wrap_id (by omega) (by omega)
  have w5 : IntKind.i64.wrap (y1 * 16777216 + y2 * 65536 + y3 * 256) = y1 * 16777216 + y2 * 65536 + y3 * 256 := wrap_id (by omega) (by omega)
  have w6 : IntKind.i64.wrap (y1 * 16777216 + y2 * 65536 + y3 * 256 + y4) = y1 * 16777216 + y2 * 65536 + y3 * 256 + y4 := wrap_id (by omega) (by omega)
  have hm := tmod_in (a := y1 * 16777216 + y2 * 65536 + y3 * 256 + y4) (by omega) (show 0 < n by omega)
  simp [w1, w2, w3, w4, w5, w6]
  refine ⟨by omega, exK_of (i4, h4, (y1 * 16777216 + y2 * 65536 + y3 * 256 + y4).tmod n) ⟨a4, hm.1, fun _ => hm.2⟩ ?_⟩
  simp
theorem w132 (bs : List Int) (i : Nat) (h n : Int) (hb : bs.length ≤ 2^40) (hi : i ≤ bs.length) : ∃ x : Nat × Int × Bool, (x.1 ≤ bs.length) ∧ Contract Try.prog true 132 [.own, .ro] [curT bs i h, .i .i64 n] [.b x.2.2] [some (curT bs x.1 x.2.1)] := by
 refine mk_contractE [some [(1, 0)]] Try.func132 (c := Try.f132.body.get!) (by kernel_rfl) k132 r132 (of_decide_eq_true rfl) ?_
 unfold c132; unfold curT; simp
 obtain ⟨⟨i1, h1, y⟩, ⟨a1, a2, a3⟩, hC⟩ := w142 bs i h n hb hi
 simp only at a1 a2 a3 hC
 unfold curT at hC
 refine callW_ms [.own, .ro] ?_
 simp
 refine callX_of hC (by simp) ?_
 simp
 refine exK_of (i1, h1, decide (y = 0)) a1 ?_
 simp
theorem w171 (bs L : List Int) (i : Nat) (h : Int) (hb : bs.length ≤ 2^40) (hi : i ≤ bs.length) (hL : 0 < L.length) (hL2 : L.length ≤ 256) : ∃ x : Nat × Int × Int, (x.1 ≤ bs.length ∧ x.2.2 ∈ L) ∧ Contract Try.prog true 171 [.own, .own] [curT bs i h, .sl true 1 (L.map iT)] [.i .i64 x.2.2] [some (curT bs x.1 x.2.1), none] := by
 refine mk_contractE [some [(1, 0)], none] Try.func171 (c := Try.f171.body.get!) (by kernel_rfl) k171 r171 (of_decide_eq_true rfl) ?_
 unfold c171; unfold curT; simp
 obtain ⟨⟨i1, h1, y⟩, ⟨a1, a2, a3⟩, hC⟩ := w142 bs i h L.length hb hi
 simp only at a1 a2 a3 hC
 unfold curT at hC
 have hy := a3 (by omega)
 obtain ⟨z, hz⟩ : ∃ z, L[y.toNat]? = some z := get_some (by omega)
 refine callW_ms [.own, .ro] ?_
 simp
 refine callX_of hC (by simp) ?_
 simp [hz, a2]
 refine ⟨hy, exK_of (i1, h1, z) ⟨a1, List.mem_of_getElem? hz⟩ ?_⟩
 simp
theorem w71 (bs : List Int) (hb : bs.length ≤ 2^40) : ∃ h : Int, (True) ∧ Contract Try.prog true 71 [.ro] [.sl false 1 (bs.map uT)] [curT bs 0 h] [] := by
 refine mk_contractE [] Try.func71 (c := Try.f71.body.get!) (by kernel_rfl) k71 r71 (of_decide_eq_true rfl) ?_
 unfold c71; unfold curT; simp
 obtain ⟨N, hN⟩ : ∃ N, N = min bs.length 4000 := ⟨_, rfl⟩
 refine twp_for N (fun j s => ∃ h : Int, s.t 0 = .sl false 1 (bs.map uT) ∧ s.t 3 = .i .i64 h ∧ s.t 4 = .i .i64 j ∧ s.H = lk [(1, [])]) [] (by simp) ?_ ?_
 ·simp
 ·rintro j s hj ⟨h, q0, q3, q4, qH⟩
  rw [nf_of qH]
  simp [q0, q3, q4]
  have hw : IntKind.i64.wrap ((j : Int) + 1) = j + 1 := wrap_id (by omega) (by omega)
  cases hb1 : decide (j < bs.length)
  ·have hge := of_decide_eq_false hb1
   simp [q0, q3, q4, hb1]
   refine exK_of h trivial ?_
   simp
  ·have hlt := of_decide_eq_true hb1
   obtain ⟨b, hbb⟩ := get_some hlt
   simp [q0, q3, q4, hb1, hbb, hw]
   refine ⟨fun h4 => by omega, fun h4 => exK_of h trivial ?_⟩
   simp
end Go.Proofs.YtmedelmfkciblaaT


namespace Go.Proofs.YtmedelmfkciblaaT
set_option linter.unusedVariables false
set_option linter.unusedSimpArgs false
open Go
theorem EntsOkP.fl {g f : List Int} (h : EntsOkP g f) : f.length ≤ 2000 := by
 have := len_le_of_nodup _ f h.2.1.1 h.2.1.2
 have := h.2.2
 omega
theorem EntsOkP.nil {g : List Int} (h : ∀ x ∈ g, x = 0) (hl : g.length ≤ 2000) : EntsOkP g [] :=
 ⟨fun x hx => by rw [h x hx]; omega, ⟨by simp, List.nodup_nil⟩, hl⟩
theorem EntsOkP.set {g f : List Int} (h : EntsOkP g f) (k : Nat) {v : Int} (hv : 0 ≤ v ∧ v ≤ 1000000) : EntsOkP (g.set k v) f := by
 refine ⟨fun x hx => ?_, by simpa using h.2.1, by simpa using h.2.2⟩
 rcases List.mem_or_eq_of_mem_set hx with hx | rfl
 ·exact h.1 x hx
 ·exact hv
theorem EntsOkP.take {g f : List Int} (h : EntsOkP g f) (hn : ¬ (g.length = 2000 ∧ f = [])) :
  ∃ (g1 f1 : List Int) (x y : Int), takeP g f = ((g1, f1), (x, y), 0) ∧ EntsOkP g1 f1 ∧ 0 ≤ x ∧ x.toNat < g1.length := by
 have h3 := h.2.2
 rcases List.eq_nil_or_concat f with rfl | ⟨f0, x, rfl⟩
 ·refine ⟨g ++ [0], [], g.length, 0, ?_, ⟨?_, ⟨by simp, List.nodup_nil⟩, ?_⟩, by omega, by simp⟩
  ·simp only [takeP, if_pos, show ¬ 2000 ≤ g.length by simp at hn; omega, if_false]
  ·intro z hz
   rcases List.mem_append.1 hz with hz | hz
   ·exact h.1 z hz
   ·simp at hz; subst hz; omega
  ·simp at hn ⊢; omega
 ·rw [List.concat_eq_append] at h ⊢
  obtain ⟨h1, h2, h3⟩ := freeOk_snoc.1 h.2.1
  obtain ⟨y, hy⟩ : ∃ y, g[x.toNat]? = some y := get_some (by omega)
  exact ⟨g, f0, x, y, takeP_snoc g f0 x y hy, ⟨h.1, h1, h.2.2⟩, h2.1, by omega⟩
theorem EntsOkP.give {g f : List Int} {x y : Int} (h : EntsOkP g f) (hl : liveP g f x y) : EntsOkP (giveG g x y) (f ++ [x]) := by
 have hy := h.1 y (List.mem_of_getElem? hl.2.1)
 have h2 : EntsOkP (giveG g x y) f := by
  unfold giveG
  refine h.set _ ?_
  split <;> omega
 refine ⟨h2.1, freeOk_snoc.2 ⟨h2.2.1, ⟨hl.1.1, ?_⟩, hl.2.2⟩, h2.2.2⟩
 rw [giveG_len]
 have := hl.1.2
 omega
end Go.Proofs.YtmedelmfkciblaaT


namespace Go.Proofs.YtmedelmfkciblaaT
set_option linter.unusedVariables false
set_option linter.unusedSimpArgs false
open Go
def c179 : TCode := (.seq (.ops [⟨(some 3), 5, .box 4 (.t 0), none, []⟩, ⟨(some 4), 6, .box 2 (.t 1), none, []⟩, ⟨(some 6), 8, .box 4 (.c (.ag [(.sl true 1 []), (.sl true 1 []), (.sl true 3 []), (.sl true 4 [])])), none, []⟩, ⟨(some 7), 9, .mv (.c (.i .i64 0)), none, []⟩])
 (.seq (.seq (.ops [⟨(some 13), 15, .faddr 0 2 (.t 3), none, []⟩, ⟨(some 14), 16, .load true 2 (.t 13), none, []⟩, ⟨(some 15), 17, .load true 2 (.t 4), none, []⟩, ⟨(some 16), 18, .call 215 [((.t 14), 0), ((.t 15), 0)], none, []⟩, ⟨(some 17), 19, .un .not (.t 16), none, []⟩])
 (.cond (.t 17)
 (.seq (.ops [⟨(some 18), 20, .load true 4 (.t 3), none, []⟩, ⟨none, 1002001, .store 4 (.t 6) (.t 18), none, []⟩, ⟨(some 7), 9, .mv (.c (.i .i64 2)), none, []⟩])
 .ret)
 .skip))
 (.seq (.ops [⟨(some 20), 22, .load true 4 (.t 3), none, []⟩, ⟨(some 21), 23, .load true 2 (.t 4), none, []⟩, ⟨(some 22), 24, .call 59 [((.t 20), 0), ((.t 21), 0)], none, []⟩, ⟨(some 19), 21, .mv (.t 22), none, []⟩, ⟨(some 23), 25, .ext 0 (.t 19), none, []⟩, ⟨(some 24), 26, .ext 1 (.t 19), none, []⟩, ⟨(some 8), 10, .mv (.t 23), none, []⟩, ⟨(some 9), 11, .mv (.t 24), none, []⟩])
 (.seq (.ops [⟨(some 25), 27, .faddr 2 1 (.t 3), none, []⟩, ⟨(some 26), 28, .load false 1 (.t 25), none, []⟩, ⟨(some 27), 29, .mv (.t 8), none, []⟩, ⟨(some 28), 30, .iaddr 3 (.t 26) (.t 27), none, []⟩, ⟨(some 29), 31, .faddr 0 1 (.t 28), none, []⟩, ⟨(some 30), 32, .load false 1 (.t 29), none, []⟩, ⟨(some 31), 33, .mv (.t 2), none, []⟩, ⟨(some 32), 34, .call 100 [((.t 30), 0), ((.t 31), 0)], none, []⟩, ⟨(some 10), 12, .mv (.t 32), none, []⟩])
 (.seq (.seq (.ops [⟨(some 33), 35, .mv (.t 10), none, []⟩, ⟨(some 34), 36, .bin .lss (.t 33) (.c (.i .i64 0)), none, []⟩])
 (.cond (.t 34)
 (.seq (.ops [⟨(some 35), 37, .load true 4 (.t 3), none, []⟩, ⟨none, 1006001, .store 4 (.t 6) (.t 35), none, []⟩, ⟨(some 7), 9, .mv (.c (.i .i64 4)), none, []⟩])
 .ret)
 .skip))
 (.seq (.ops [⟨(some 36), 38, .load true 4 (.t 3), none, []⟩, ⟨(some 37), 39, .mv (.t 8), none, []⟩, ⟨(some 38), 40, .mv (.t 9), none, []⟩, ⟨(some 39), 41, .call 216 [((.t 36), 0), ((.t 37), 0), ((.t 38), 0)], none, []⟩, ⟨(some 11), 13, .mv (.t 39), none, []⟩])
 (.seq (.draw [⟨(some 40), 42, .bslice 5 0 [(.i .i64 0), (.i .i64 0), (.i .i64 0), (.f 0), (.f 0)] [], none, []⟩, ⟨(some 41), 43, .mv (.t 11), none, [0]⟩, ⟨(some 42), 44, .mv (.t 10), none, [0]⟩, ⟨(some 43), 45, .slice false 5 (.t 41) none (some (.t 42)), none, [0]⟩, ⟨(some 44), 46, .app 5 40 (.t 40) (.t 43), none, []⟩, ⟨(some 45), 47, .mv (.t 11), none, [0, 4]⟩, ⟨(some 46), 48, .mv (.t 10), none, [0, 4]⟩, ⟨(some 47), 49, .bin .add (.t 46) (.c (.i .i64 1)), none, [0, 4]⟩, ⟨(some 48), 50, .slice false 5 (.t 45) (some (.t 47)) none, none, [0, 4]⟩, ⟨(some 49), 51, .app 5 40 (.t 44) (.t 48), none, []⟩, ⟨(some 12), 14, .mv (.t 49), none, []⟩])
 (.seq (.ops [⟨(some 50), 52, .load true 4 (.t 3), none, []⟩, ⟨(some 51), 53, .mv (.t 8), none, []⟩, ⟨(some 52), 54, .mv (.t 9), none, []⟩, ⟨(some 53), 55, .mv (.t 12), none, []⟩, ⟨(some 54), 56, .call 217 [((.t 50), 0), ((.t 51), 0), ((.t 52), 0), ((.t 53), 0)], none, []⟩, ⟨(some 55), 57, .ext 0 (.t 54), none, []⟩, ⟨(some 56), 58, .ext 1 (.t 54), none, []⟩, ⟨none, 1009007, .store 4 (.t 6) (.t 55), none, []⟩, ⟨(some 7), 9, .mv (.t 56), none, []⟩])
 .ret))))))))
theorem k179 : compCode Try.prog Try.f179.ntmps Try.f179.body.get! = some c179 := by kernel_rfl
theorem r179 : resTmps Try.prog Try.f179.results.toList = some [.cell 6 true 4, .tmp 7] := by kernel_rfl
def dropTs (ts : List TableP) (i k : Nat) (t : TableP) (e : Int × Int) (c : Int) : List TableP × Int :=
 if 0 ≤ idxF t.1 c then (if fullT ts (colsOf ((rowL t k).eraseIdx (idxF t.1 c).toNat)) then (ts, 3) else (moveTs ts i k e ((rowL t k).eraseIdx (idxF t.1 c).toNat), 0)) else (ts, 4)
theorem erase_len {M : List CellP} {m : Nat} (h : m < M.length) : (M.eraseIdx m).length + 1 = M.length := by
 rw [List.length_eraseIdx, if_pos h]; omega
theorem sl_take (M : List CellP) (a : Nat) : List.take a (List.drop (offE 0 a) (M.map clT)) = (M.take a).map clT := by
 unfold offE
 split
 ·rename_i h; subst h; simp
 ·simp [List.map_take]
theorem sl_drop (M : List CellP) (a n : Nat) (hn : n = M.length - a) : List.take n (List.drop (offE a n) (M.map clT)) = (M.drop a).map clT := by
 unfold offE
 split
 ·rename_i h
  rw [h, List.take_zero, List.drop_eq_nil_of_le (by omega)]; rfl
 ·rw [List.take_of_length_le (by simp; omega), List.map_drop]
set_option maxHeartbeats 4000000 in
set_option maxRecDepth 100000 in
theorem w179 (g f : List Int) (ts : List TableP) (rs : List ValP) (i k : Nat) (t : TableP) (e : Int × Int) (c : Int) (hg : g.length ≤ 2^36) (hf : f.length ≤ 2^36) (hrs : rs.length ≤ 2^36) (E : EvenP ts) (P : AtP ts i k t e) (hlv : liveP g f e.1 e.2) : Contract Try.prog false 179 [.own, .ro, .ro] [worldO g f ts rs, .ag (eT e), .i .i64 c] [worldO g f (dropTs ts i k t e c).1 rs, .i .i64 (dropTs ts i k t e c).2] [none, none, none, none] := by
 refine mk_contract [none, none, none, none] Try.func179 (c := Try.f179.body.get!) (by kernel_rfl) k179 r179 (of_decide_eq_true rfl) fun _ => ?_
 have hok : okW (g, f, ts, rs) := ⟨hg, hf, ⟨by have := E.n; simp only; omega, E.okT⟩, hrs⟩
 have hW := w59 (g, f, ts, rs) e hok
 simp only [P.hw] at hW
 have hlive := (w215 g f e.1 e.2 (by omega) (by omega)).t hlv
 simp only [entsR, entT] at hlive
 have ht := P.ht
 have hm := List.mem_of_getElem? ht
 have hil := (List.getElem?_eq_some_iff.1 ht).1
 have hkl : k < t.2.1.length := (List.getElem?_eq_some_iff.1 P.he).1
 have hn := E.n
 have hA := w100 t.1 c (by have := E.c t hm; omega)
 have hidx := idx_lt (l := t.1) (x := c)
 have hR := w216 g f ts rs i k t (by omega) ht (by have := E.c t hm; omega) (E.s t hm) (E.v t hm) hkl
 have hrl := rowL_len (k := k) (E.s t hm)
 have hc30 := E.c t hm
 unfold dropTs
 generalize hix : idxF t.1 c = ix at *
 obtain ⟨M, hM⟩ : ∃ M, M = rowL t k := ⟨_, rfl⟩
 rw [← hM] at hR hrl ⊢
 by_cases hx0 : 0 ≤ ix
 ·rw [if_pos hx0]
  have hixM : ix.toNat < M.length := by have := hidx hx0; omega
  have hLl := erase_len hixM
  have hLe : M.eraseIdx ix.toNat = M.take ix.toNat ++ M.drop (ix.toNat + 1) := List.eraseIdx_eq_take_drop_succ ..
  obtain ⟨L, hL⟩ : ∃ L, L = M.eraseIdx ix.toNat := ⟨_, rfl⟩
  rw [← hL] at hLl hLe ⊢
  obtain ⟨TS, hTS⟩ : ∃ TS : List TableP × Int, TS = if fullT ts (colsOf L) then (ts, 3) else (moveTs ts i k e L, 0) := ⟨_, rfl⟩
  rw [← hTS]
  have hMv : Contract Try.prog false 217 [.own, .ro, .ro, .ro] [worldO g f ts rs, .i .i64 i, .i .i64 k, .sl false 5 (L.map clT)] [worldO g f TS.1 rs, .i .i64 TS.2] [none, none, none, none] := by
   rw [hTS]
   by_cases hfu : fullT ts (colsOf L)
   ·rw [if_pos hfu]
    exact W217f g f ts rs i k L (fun t ht => by have := E.c t ht; omega) hn (by omega) hfu
   ·rw [if_neg hfu]
    refine w217 g f ts rs i k L t e (fun t ht => by have := E.c t ht; omega) hn (by omega) hfu ht P.he ?_ E.r E.s E.v
    intro h
    have := congrArg List.length h
    simp [colsOf] at this
    omega
  obtain ⟨X, hX⟩ : ∃ X, X = M.take ix.toNat := ⟨_, rfl⟩
  obtain ⟨Y, hY⟩ : ∃ Y, Y = M.drop (ix.toNat + 1) := ⟨_, rfl⟩
  have hXl : X.length = ix.toNat := by rw [hX]; simp; omega
  have hYl : Y.length = M.length - (ix.toNat + 1) := by rw [hY]; simp
  have hS1 := sl_take M ix.toNat
  have hS2 := sl_drop M (ix.toNat + 1) (M.length - (ix.toNat + 1)) rfl
  rw [← hX] at hS1 hLe
  rw [← hY] at hS2 hLe
  have hw1 : IntKind.i64.wrap (ix + 1) = ix + 1 := wrap_id (by omega) (by omega)
  have hw2 : (ix + 1).toNat = ix.toNat + 1 := by omega
  unfold c179; simp
  refine callW_ms [.ro, .ro] ?_
  simp
  refine callX_of hlive (by simp) ?_
  simp
  refine callW_ms [.ro, .ro] ?_
  simp
  refine callX_of hW (by simp) ?_
  simp [ht]
  refine ⟨hil, ?_⟩
  refine callW_ms [.ro, .ro] ?_
  simp [ht]
  refine callX_of hA (by simp) ?_
  simp [ht, hx0]
  refine ⟨fun h => absurd h (by omega), ?_⟩
  refine callW_ms [.ro, .ro, .ro] ?_
  simp
  refine callX_of hR (by simp) ?_
  simp [hw1, hw2, hS1, hXl, hYl, hS2]
  refine ⟨hx0, by omega, ?_⟩
  refine ⟨by omega, by omega, by omega, by omega, ?_⟩
  have eL : List.map clT X ++ List.map clT Y = L.map clT := by rw [hLe]; simp
  have eN : ix.toNat + (M.length - (ix.toNat + 1)) = L.length := by omega
  rw [eL, eN]
  refine callW_ms [.own, .ro, .ro, .ro] ?_
  simp
  refine callX_of hMv (by simp) ?_
  simp
 ·rw [if_neg hx0]
  unfold c179; simp
  refine callW_ms [.ro, .ro] ?_
  simp
  refine callX_of hlive (by simp) ?_
  simp
  refine callW_ms [.ro, .ro] ?_
  simp
  refine callX_of hW (by simp) ?_
  simp [ht]
  refine ⟨hil, ?_⟩
  refine callW_ms [.ro, .ro] ?_
  simp [ht]
  refine callX_of hA (by simp) ?_
  simp [ht, hx0]
end Go.Proofs.YtmedelmfkciblaaT


namespace Go.Proofs.YtmedelmfkciblaaT
set_option linter.unusedVariables false
set_option linter.unusedSimpArgs false
open Go
def vOkV (l : List ValP) : Prop := ∀ x ∈ l, valOkF x
structure TOk (n : Nat) (t : TableP) : Prop where
 c : t.1.length ≤ 20 + n
 r : t.2.1.length ≤ n
 s : t.2.2.length = t.1.length
 v : ∀ v ∈ t.2.2, v.length = t.2.1.length
 f : ∀ v ∈ t.2.2, vOkV v
structure TsP (n : Nat) (ts : List TableP) : Prop where
 m : ts.length ≤ 40
 t : ∀ t ∈ ts, TOk n t
def hasR (ts : List TableP) (e : Int × Int) : Prop := ∃ (i : Nat) (t : TableP), ts[i]? = some t ∧ e ∈ t.2.1
structure WkP (n : Nat) (w : WorldP) : Prop where
 e : EntsOkP w.1 w.2.1
 t : TsP n w.2.2.1
 l : ∀ x y, liveP w.1 w.2.1 x y → hasR w.2.2.1 (x, y)
 r : w.2.2.2.length ≤ 20 ∧ vOkV w.2.2.2
theorem TOk.mono {n m : Nat} {t : TableP} (h : TOk n t) (hm : n ≤ m) : TOk m t := ⟨by have := h.c; omega, by have := h.r; omega, h.s, h.v, h.f⟩
theorem TsP.mono {n m : Nat} {ts : List TableP} (h : TsP n ts) (hm : n ≤ m) : TsP m ts := ⟨h.m, fun t ht => (h.t t ht).mono hm⟩
theorem WkP.mono {n m : Nat} {w : WorldP} (h : WkP n w) (hm : n ≤ m) : WkP m w := ⟨h.e, h.t.mono hm, h.l, h.r⟩
theorem TsP.even {n : Nat} {ts : List TableP} (h : TsP n ts) (hn : n ≤ 1000) : EvenP ts :=
 ⟨by have := h.m; omega, fun t ht => by have := (h.t t ht).c; omega, fun t ht => by have := (h.t t ht).r; omega, fun t ht => (h.t t ht).s, fun t ht => (h.t t ht).v⟩
theorem leave_sub {α : Type} {l : List α} {k : Nat} {y : α} (h : y ∈ leaveL l k) : y ∈ l := by
 unfold leaveL at h
 split at h
 ·rename_i z hz
  rcases List.mem_or_eq_of_mem_set (List.mem_of_mem_take h) with h | rfl
  ·exact h
  ·exact List.mem_of_getElem? hz
 ·cases h
theorem leave_mem {α : Type} {l : List α} {k : Nat} {e x : α} (hk : l[k]? = some e) (hx : x ∈ l) (hne : x ≠ e) : x ∈ leaveL l k := by
 obtain ⟨i, hi⟩ := List.mem_iff_getElem?.1 hx
 have hil := (List.getElem?_eq_some_iff.1 hi).1
 have hkl := (List.getElem?_eq_some_iff.1 hk).1
 have hik : i ≠ k := by
  rintro rfl
  rw [hk] at hi; cases hi; exact hne rfl
 obtain ⟨z, hz⟩ : ∃ z, l[l.length - 1]? = some z := get_some (by omega)
 rw [leaveL_some hz]
 by_cases hl : i < l.length - 1
 ·refine List.mem_of_getElem? (i := i) ?_
  rw [List.getElem?_take_of_lt hl, List.getElem?_set_ne (Ne.symm hik)]
  exact hi
 ·have : i = l.length - 1 := by omega
  subst this
  rw [hz] at hi; cases hi
  refine List.mem_of_getElem? (i := k) ?_
  rw [List.getElem?_take_of_lt (by omega), List.getElem?_set_self hkl]
theorem TOk.leave {n k : Nat} {t : TableP} (h : TOk n t) (hk : k < t.2.1.length) : TOk n (leaveT t k) := by
 have hr := leaveL_len (l := t.2.1) (k := k) (by omega)
 refine ⟨h.c, ?_, by simp only [leaveT, List.length_map]; exact h.s, fun v hv => ?_, fun v hv => ?_⟩
 ·have := h.r
  simp only [leaveT]; omega
 ·simp only [leaveT] at hv ⊢
  obtain ⟨u, hu, rfl⟩ := List.mem_map.1 hv
  have hl := h.v u hu
  rw [leaveL_len (by omega), hr, hl]
 ·simp only [leaveT] at hv
  obtain ⟨u, hu, rfl⟩ := List.mem_map.1 hv
  exact fun x hx => h.f u hu x (leave_sub hx)
theorem zip_mem {C : List (List ValP)} {L : List CellP} {v : List ValP} (h : v ∈ List.zipWith (fun vs x => vs ++ [x.2]) C L) : ∃ u x, u ∈ C ∧ x ∈ L ∧ v = u ++ [x.2] := by
 obtain ⟨i, hi⟩ := List.mem_iff_getElem?.1 h
 rw [List.getElem?_zipWith] at hi
 cases h1 : C[i]? with
 | none => simp [h1] at hi
 | some u =>
  cases h2 : L[i]? with
  | none => simp [h1, h2] at hi
  | some x =>
   simp [h1, h2] at hi
   exact ⟨u, x, List.mem_of_getElem? h1, List.mem_of_getElem? h2, hi.symm⟩
theorem TOk.join {n : Nat} {t : TableP} {e : Int × Int} {L : List CellP} (h : TOk n t) (hL : t.1 = colsOf L) (hv : vOkL L) : TOk (n + 1) (joinT t e L) := by
 have hl : t.1.length = L.length := by rw [hL]; simp [colsOf]
 refine ⟨by have := h.c; simp only [joinT]; omega, by have := h.r; simp [joinT]; omega, ?_, fun v hvm => ?_, fun v hvm => ?_⟩
 ·simp only [joinT, List.length_zipWith]
  rw [h.s, hl]; omega
 ·obtain ⟨u, x, hu, hx, rfl⟩ := zip_mem hvm
  simp [joinT, h.v u hu]
 ·obtain ⟨u, x, hu, hx, rfl⟩ := zip_mem hvm
  intro y hy
  rcases List.mem_append.1 hy with hy | hy
  ·exact h.f u hu y hy
  ·rw [List.mem_singleton.1 hy]; exact hv x hx
theorem mem_mod {α : Type} {l : List α} {i : Nat} {f : α → α} {x : α} (h : x ∈ l.modify i f) : x ∈ l ∨ ∃ y, l[i]? = some y ∧ x = f y := by
 obtain ⟨j, hj⟩ := List.mem_iff_getElem?.1 h
 rw [List.getElem?_modify] at hj
 obtain ⟨y, hy, rfl⟩ := Option.map_eq_some_iff.1 hj
 split
 ·rename_i he; subst he; exact .inr ⟨y, hy, rfl⟩
 ·exact .inl (List.mem_of_getElem? hy)
theorem TsP.mod {n m i : Nat} {ts : List TableP} {f : TableP → TableP} (h : TsP n ts) (hm : n ≤ m) (hf : ∀ t, ts[i]? = some t → TOk m (f t)) : TsP m (ts.modify i f) :=
 ⟨by rw [List.length_modify]; exact h.m, fun t ht => by
  rcases mem_mod ht with ht | ⟨y, hy, rfl⟩
  ·exact (h.t t ht).mono hm
  ·exact hf y hy⟩
theorem newT_ok {n : Nat} {cols : List Int} (h : cols.length ≤ 20 + n) : TOk n (newT cols) :=
 ⟨h, by simp [newT], by simp [newT], fun v hv => by simp [newT] at hv; rw [hv.2]; simp [newT], fun v hv => by simp [newT] at hv; rw [hv.2]; intro x hx; cases hx⟩
theorem TsP.tab {n : Nat} {ts : List TableP} {cols : List Int} (h : TsP n ts) (hf : ¬ fullT ts cols) (hc : cols.length ≤ 20 + n) :
  TsP n (tabW ts cols).1 ∧ (∃ T2, (tabW ts cols).1[(tabW ts cols).2]? = some T2 ∧ T2.1 = cols) ∧ ∀ (i : Nat) (t : TableP), ts[i]? = some t → (tabW ts cols).1[i]? = some t := by
 unfold tabW
 by_cases hix : 0 ≤ tabIx ts cols
 ·rw [if_pos hix]
  obtain ⟨j, T2, h1, h2, h3⟩ := tabIx_at hix
  refine ⟨h, ⟨T2, ?_, h3⟩, fun i t ht => ht⟩
  rw [h1]; exact h2
 ·rw [if_neg hix]
  have hl : ts.length < 40 := by
   unfold fullT at hf
   have := h.m
   rcases Nat.lt_or_ge ts.length 40 with h | h
   ·exact h
   ·exact absurd ⟨hix, h⟩ hf
  refine ⟨⟨by simp; omega, fun t ht => ?_⟩, ⟨newT cols, by simp, rfl⟩, fun i t ht => ?_⟩
  ·rcases List.mem_append.1 ht with ht | ht
   ·exact h.t t ht
   ·rw [List.mem_singleton.1 ht]; exact newT_ok hc
  ·rw [List.getElem?_append_left (List.getElem?_eq_some_iff.1 ht).1]; exact ht
theorem hasR.ext {ts ts' : List TableP} {e : Int × Int} (h : hasR ts e) (hs : ∀ (i : Nat) (t : TableP), ts[i]? = some t → ts'[i]? = some t) : hasR ts' e := by
 obtain ⟨i, t, h1, h2⟩ := h
 exact ⟨i, t, hs i t h1, h2⟩
theorem hasR.join {ts : List TableP} {e x : Int × Int} {j : Nat} {L : List CellP} (h : hasR ts x) : hasR (ts.modify j fun t => joinT t e L) x := by
 obtain ⟨i, t, h1, h2⟩ := h
 refine ⟨i, if j = i then joinT t e L else t, ?_, ?_⟩
 ·rw [List.getElem?_modify, h1]
  by_cases hj : j = i <;> simp [hj]
 ·split
  ·simp [joinT, h2]
  ·exact h2
theorem hasR.new {ts : List TableP} {e : Int × Int} {j : Nat} {t : TableP} {L : List CellP} (h : ts[j]? = some t) : hasR (ts.modify j fun t => joinT t e L) e :=
 ⟨j, joinT t e L, by rw [List.getElem?_modify, h]; simp, by simp [joinT]⟩
theorem hasR.leave {ts : List TableP} {e x : Int × Int} {i k : Nat} {t : TableP} (ht : ts[i]? = some t) (he : t.2.1[k]? = some e) (h : hasR ts x) (hne : x ≠ e) : hasR (leaveAt ts i k) x := by
 obtain ⟨j, t', h1, h2⟩ := h
 by_cases hj : i = j
 ·subst hj
  rw [ht] at h1; cases h1
  exact ⟨i, leaveT t k, by unfold leaveAt; rw [List.getElem?_modify, ht]; simp, leave_mem he h2 hne⟩
 ·exact ⟨j, t', by unfold leaveAt; rw [List.getElem?_modify, h1]; simp [hj], h2⟩
theorem live_take {g f : List Int} {x y : Int} (hx : ∀ z ∈ f, 0 ≤ z ∧ z < g.length) (h : liveP (takeP g f).1.1 (takeP g f).1.2 x y) : liveP g f x y ∨ (x, y) = (takeP g f).2.1 := by
 rcases List.eq_nil_or_concat f with rfl | ⟨f0, z, rfl⟩
 ·unfold takeP at h ⊢
  simp only [if_true] at h ⊢
  by_cases hl : 2000 ≤ g.length
  ·rw [if_pos hl] at h; exact .inl h
  ·rw [if_neg hl] at h ⊢
   simp only at h ⊢
   obtain ⟨⟨h1, h2⟩, h3, h4⟩ := h
   simp only [List.length_append, List.length_singleton] at h2
   by_cases hxg : x.toNat < g.length
   ·refine .inl ⟨⟨h1, by omega⟩, ?_, h4⟩
    rwa [List.getElem?_append_left hxg] at h3
   ·have : x.toNat = g.length := by omega
    rw [this] at h3
    simp at h3
    refine .inr ?_
    rw [Prod.mk.injEq]
    exact ⟨by omega, h3.symm⟩
 ·simp only [List.concat_eq_append] at hx h ⊢
  obtain ⟨a1, a2⟩ := hx z (by simp)
  obtain ⟨y', hy'⟩ : ∃ y', g[z.toNat]? = some y' := get_some (by omega)
  rw [takeP_snoc g f0 z y' hy'] at h ⊢
  simp only at h ⊢
  obtain ⟨h1, h3, h4⟩ := h
  by_cases hz : x = z
  ·subst hz
   rw [hy'] at h3; cases h3
   exact .inr rfl
  ·refine .inl ⟨h1, h3, fun hm => ?_⟩
   rcases List.mem_append.1 hm with hm | hm
   ·exact h4 hm
   ·exact hz (List.mem_singleton.1 hm)
theorem live_give {g f : List Int} {a b x y : Int} (ha : 0 ≤ a) (h : liveP (giveG g a b) (f ++ [a]) x y) : liveP g f x y ∧ x ≠ a := by
 obtain ⟨⟨h1, h2⟩, h3, h4⟩ := h
 have hxa : x ≠ a := fun e => h4 (by simp [e])
 refine ⟨⟨⟨h1, by simpa using h2⟩, ?_, fun hm => h4 (by simp [hm])⟩, hxa⟩
 unfold giveG at h3
 rwa [List.getElem?_set_ne (by omega)] at h3
theorem flatR_of {ts : List TableP} {e : Int × Int} (h : hasR ts e) : e ∈ flatR ts := by
 obtain ⟨i, t, h1, h2⟩ := h
 induction ts generalizing i with
 | nil => simp at h1
 | cons t' ts ih =>
  cases i with
  | zero =>
   simp at h1; subst h1
   simp [flatR, h2]
  | succ i =>
   have := ih i (by simpa using h1)
   simp only [flatR] at this ⊢
   simp [this]
theorem WkP.at {n : Nat} {w : WorldP} {e : Int × Int} (h : WkP n w) (hl : liveP w.1 w.2.1 e.1 e.2) : ∃ (i k : Nat) (t : TableP), AtP w.2.2.1 i k t e := by
 obtain ⟨j, k, t, hj, hk, hwj⟩ := where_row 0 (flatR_of (h.l e.1 e.2 hl))
 rw [Nat.zero_add] at hwj
 exact ⟨j, k, t, hj, hk, hwj⟩
theorem WkP.fx {n : Nat} {w : WorldP} (h : WkP n w) : ∀ x ∈ w.2.1, 0 ≤ x ∧ x < w.1.length := fun x hx => h.e.2.1.1 x hx
theorem WkP.spawn {n : Nat} {g f : List Int} {ts : List TableP} {rs : List ValP} {L : List CellP} (h : WkP n (g, f, ts, rs)) (hL : L.length ≤ 8) (hv : vOkL L) : WkP (n + 1) ((spawnP g f ts L).1.1, (spawnP g f ts L).1.2.1, (spawnP g f ts L).1.2.2, rs) := by
 unfold spawnP
 split
 ·rename_i hc
  obtain ⟨h0, hf⟩ := hc
  have hn : ¬ (g.length = 2000 ∧ f = []) := by
   rintro ⟨h1, rfl⟩
   simp [takeP, h1] at h0
  obtain ⟨t1, ⟨T2, t2, t3⟩, t4⟩ := h.t.tab hf (by simp [colsOf]; omega)
  obtain ⟨g1, f1, x1, y1, hT, hE, _, _⟩ := h.e.take hn
  refine ⟨by simp only at hT; rw [hT]; exact hE, ?_, fun x y hl => ?_, h.r⟩
  ·refine t1.mod (by omega) fun t ht => ?_
   rw [t2] at ht; cases ht
   exact (t1.t T2 (List.mem_of_getElem? t2)).join t3 hv
  ·rcases live_take h.fx hl with hl | he
   ·exact ((h.l x y hl).ext t4).join
   ·rw [he]
    exact hasR.new t2
 ·exact h.mono (by omega)
theorem TsP.leave {n i k : Nat} {ts : List TableP} {t : TableP} (h : TsP n ts) (ht : ts[i]? = some t) (hk : k < t.2.1.length) : TsP n (leaveAt ts i k) :=
 h.mod (Nat.le_refl _) fun t' ht' => by
  rw [ht] at ht'; cases ht'
  exact (h.t t (List.mem_of_getElem? ht)).leave hk
theorem WkP.kill {n : Nat} {g f : List Int} {ts : List TableP} {rs : List ValP} {i k : Nat} {t : TableP} {e : Int × Int} (h : WkP n (g, f, ts, rs)) (P : AtP ts i k t e) (hl : liveP g f e.1 e.2) : WkP n (giveG g e.1 e.2, f ++ [e.1], leaveAt ts i k, rs) := by
 have hk := (List.getElem?_eq_some_iff.1 P.he).1
 refine ⟨h.e.give hl, h.t.leave P.ht hk, fun x y hlx => ?_, h.r⟩
 obtain ⟨h1, h2⟩ := live_give hl.1.1 hlx
 exact hasR.leave P.ht P.he (h.l x y h1) fun he => h2 (congrArg Prod.fst he)
theorem WkP.move {n : Nat} {g f : List Int} {ts : List TableP} {rs : List ValP} {i k : Nat} {t : TableP} {e : Int × Int} {L : List CellP} (h : WkP n (g, f, ts, rs)) (P : AtP ts i k t e) (hf : ¬ fullT ts (colsOf L)) (hne : t.1 ≠ colsOf L) (hL : L.length ≤ 20 + n) (hv : vOkL L) : WkP (n + 1) (g, f, moveTs ts i k e L, rs) := by
 have hk := (List.getElem?_eq_some_iff.1 P.he).1
 obtain ⟨t1, ⟨T2, t2, t3⟩, t4⟩ := h.t.tab hf (by simp [colsOf]; omega)
 have hij : (tabW ts (colsOf L)).2 ≠ i := by
  rintro hh
  rw [hh, t4 i t P.ht] at t2
  cases t2
  exact hne t3
 have hti : ((tabW ts (colsOf L)).1.modify (tabW ts (colsOf L)).2 fun t => joinT t e L)[i]? = some t := by
  rw [List.getElem?_modify, t4 i t P.ht]
  simp [hij]
 have hJ : TsP (n + 1) ((tabW ts (colsOf L)).1.modify (tabW ts (colsOf L)).2 fun t => joinT t e L) := t1.mod (by omega) fun t ht => by
  rw [t2] at ht; cases ht
  exact (t1.t T2 (List.mem_of_getElem? t2)).join t3 hv
 refine ⟨h.e, hJ.leave hti hk, fun x y hl => ?_, h.r⟩
 by_cases hxe : (x, y) = e
 ·rw [hxe]
  refine ⟨(tabW ts (colsOf L)).2, joinT T2 e L, ?_, by simp [joinT]⟩
  unfold moveTs leaveAt
  rw [List.getElem?_modify, List.getElem?_modify, t2]
  simp [Ne.symm hij]
 ·exact hasR.leave hti P.he (((h.l x y hl).ext t4).join) hxe
theorem fOk_z : fOk 0 := ⟨0, by decide, by decide +kernel⟩
theorem row_ok {n k : Nat} {t : TableP} (h : TOk n t) : vOkL (rowL t k) := by
 intro y hy
 obtain ⟨i, hi⟩ := List.mem_iff_getElem?.1 hy
 simp only [rowL, List.getElem?_zipWith] at hi
 cases h1 : t.1[i]? with
 | none => simp [h1] at hi
 | some x =>
  cases h2 : t.2.2[i]? with
  | none => simp [h1, h2] at hi
  | some vs =>
   simp [h1, h2] at hi
   subst hi
   simp only
   cases h3 : vs[k]? with
   | none => exact ⟨fOk_z, fOk_z⟩
   | some v => exact h.f vs (List.mem_of_getElem? h2) v (List.mem_of_getElem? h3)
theorem insC_mem {c y : CellP} : ∀ {M : List CellP}, y ∈ insC c M → y = c ∨ y ∈ M
 | [], h => by simp [insC] at h; exact .inl h
 | x :: M, h => by
  simp only [insC] at h
  split at h
  ·rcases List.mem_cons.1 h with h | h
   ·exact .inl h
   ·exact .inr h
  ·rcases List.mem_cons.1 h with h | h
   ·exact .inr (by simp [h])
   ·rcases insC_mem h with h | h
    ·exact .inl h
    ·exact .inr (by simp [h])
theorem WkP.put {n : Nat} {g f : List Int} {ts : List TableP} {rs : List ValP} {i k : Nat} {t : TableP} {e : Int × Int} {c : CellP} (h : WkP n (g, f, ts, rs)) (P : AtP ts i k t e) (hc : valOkF c.2) : WkP (n + 2) (g, f, (putTs ts i k t e c).1, rs) := by
 have hm := List.mem_of_getElem? P.ht
 have hT := h.t.t t hm
 have hrl := rowL_len (k := k) hT.s
 unfold putTs
 split
 ·rename_i h0
  refine ⟨h.e, ?_, fun x y hl => ?_, h.r⟩
  ·unfold setTs
   refine h.t.mod (by omega) fun t' ht' => ?_
   rw [P.ht] at ht'; cases ht'
   refine ⟨by have := hT.c; simp only; omega, by have := hT.r; simp only; omega, by simp only [List.length_modify]; exact hT.s, fun v hv => ?_, fun v hv => ?_⟩
   ·rcases mem_mod hv with hv | ⟨u, hu, rfl⟩
    ·exact hT.v v hv
    ·rw [List.length_set]; exact hT.v u (List.mem_of_getElem? hu)
   ·rcases mem_mod hv with hv | ⟨u, hu, rfl⟩
    ·exact hT.f v hv
    ·intro y hy
     rcases List.mem_or_eq_of_mem_set hy with hy | rfl
     ·exact hT.f u (List.mem_of_getElem? hu) y hy
     ·exact hc
  ·obtain ⟨j, t', h1, h2⟩ := h.l x y hl
   refine ⟨j, if i = j then (t'.1, t'.2.1, t'.2.2.modify (idxF t.1 c.1).toNat fun vs => vs.set k c.2) else t', ?_, ?_⟩
   ·unfold setTs
    simp only at h1
    rw [List.getElem?_modify, h1]
    by_cases hj : i = j <;> simp [hj]
   ·split <;> exact h2
 ·split
  ·exact h.mono (by omega)
  ·rename_i hf
   have hlM := insC_len c (rowL t k)
   refine (h.mono (Nat.le_succ n)).move P hf (fun he => ?_) (by have := hT.c; omega) fun y hy => ?_
   ·have := congrArg List.length he
    simp [colsOf, hlM] at this
    omega
   ·rcases insC_mem hy with rfl | hy
    ·exact hc
    ·exact row_ok hT y hy
theorem WkP.drop {n : Nat} {g f : List Int} {ts : List TableP} {rs : List ValP} {i k : Nat} {t : TableP} {e : Int × Int} {c : Int} (h : WkP n (g, f, ts, rs)) (P : AtP ts i k t e) : WkP (n + 2) (g, f, (dropTs ts i k t e c).1, rs) := by
 have hm := List.mem_of_getElem? P.ht
 have hT := h.t.t t hm
 have hrl := rowL_len (k := k) hT.s
 unfold dropTs
 split
 ·rename_i h0
  split
  ·exact h.mono (by omega)
  ·rename_i hf
   have hi := idx_lt h0
   have hl := erase_len (M := rowL t k) (m := (idxF t.1 c).toNat) (by omega)
   refine (h.mono (Nat.le_succ n)).move P hf (fun he => ?_) (by have := hT.c; omega) fun y hy => row_ok hT y (List.mem_of_mem_eraseIdx hy)
   have := congrArg List.length he
   simp [colsOf] at this
   omega
 ·exact h.mono (by omega)
theorem WkP.tab {n : Nat} {g f : List Int} {ts : List TableP} {rs : List ValP} {cols : List Int} (h : WkP n (g, f, ts, rs)) (hf : ¬ fullT ts cols) (hc : cols.length ≤ 20 + n) : WkP n (g, f, (tabW ts cols).1, rs) := by
 obtain ⟨t1, _, t4⟩ := h.t.tab hf hc
 exact ⟨h.e, t1, fun x y hl => (h.l x y hl).ext t4, h.r⟩
end Go.Proofs.YtmedelmfkciblaaT


namespace Go.Proofs.YtmedelmfkciblaaT
set_option linter.unusedVariables false
set_option linter.unusedSimpArgs false
open Go
def c237 : TCode := (.seq (.ops [⟨(some 0), 2, .mv (.c (.f 0)), none, []⟩])
 (.seq (.ops [⟨(some 1), 3, .mv (.c (.f 0)), none, []⟩])
 (.seq (.ops [⟨(some 2), 4, .mv (.t 1), none, []⟩, ⟨(some 3), 5, .mv (.t 1), none, []⟩, ⟨(some 4), 6, .bin .quo (.t 2) (.t 3), none, []⟩, ⟨(some 0), 2, .mv (.t 4), none, []⟩])
 .ret)))
theorem k237 : compCode Try.prog Try.f237.ntmps Try.f237.body.get! = some c237 := by kernel_rfl
theorem r237 : resTmps Try.prog Try.f237.results.toList = some [.tmp 0] := by kernel_rfl
def c238 : TCode := (.seq (.ops [⟨(some 0), 2, .mv (.c (.f 0)), none, []⟩])
 (.seq (.ops [⟨(some 1), 3, .mv (.c (.f 0)), none, []⟩])
 (.seq (.ops [⟨(some 2), 4, .mv (.t 1), none, []⟩, ⟨(some 3), 5, .bin .quo (.c (.f 4607182418800017408)) (.t 2), none, []⟩, ⟨(some 0), 2, .mv (.t 3), none, []⟩])
 .ret)))
theorem k238 : compCode Try.prog Try.f238.ntmps Try.f238.body.get! = some c238 := by kernel_rfl
theorem r238 : resTmps Try.prog Try.f238.results.toList = some [.tmp 0] := by kernel_rfl
def c233 : TCode := (.seq (.ops [⟨(some 2), 4, .mv (.c (.f 0)), none, []⟩])
 (.seq (.seq (.ops [⟨(some 3), 5, .mv (.t 0), none, []⟩, ⟨(some 4), 6, .call 142 [((.t 3), 3), ((.c (.i .i64 12)), 0)], none, []⟩])
 (.block 0 (.seq (.ops [⟨(some 6), 8, .bin .eql (.t 4) (.c (.i .i64 0)), none, []⟩, ⟨(some 5), 7, .mv (.t 6), none, []⟩])
 (.cond (.t 5)
 (.seq (.ops [⟨(some 2), 4, .mv (.c (.f 0)), none, []⟩])
 .ret)
 (.seq (.ops [⟨(some 8), 10, .bin .eql (.t 4) (.c (.i .i64 1)), none, []⟩, ⟨(some 7), 9, .mv (.t 8), none, []⟩])
 (.cond (.t 7)
 (.seq (.ops [⟨(some 9), 11, .mv (.t 0), none, []⟩, ⟨(some 10), 12, .call 142 [((.t 9), 3), ((.c (.i .i64 4)), 0)], none, []⟩, ⟨(some 11), 13, .toF (.t 10), none, []⟩, ⟨(some 12), 14, .bin .mul (.c (.f 4598175219545276416)) (.t 11), none, []⟩, ⟨(some 13), 15, .un .neg (.t 12), none, []⟩, ⟨(some 2), 4, .mv (.t 13), none, []⟩])
 .ret)
 (.seq (.ops [⟨(some 15), 17, .bin .eql (.t 4) (.c (.i .i64 2)), none, []⟩, ⟨(some 14), 16, .mv (.t 15), none, []⟩])
 (.cond (.t 14)
 (.seq (.ops [⟨(some 2), 4, .mv (.c (.f 9094988921128908188)), none, []⟩])
 .ret)
 (.seq (.ops [⟨(some 17), 19, .bin .eql (.t 4) (.c (.i .i64 3)), none, []⟩, ⟨(some 16), 18, .mv (.t 17), none, []⟩])
 (.cond (.t 16)
 (.seq (.seq (.ops [⟨(some 18), 20, .mv (.t 0), none, []⟩, ⟨(some 19), 21, .call 132 [((.t 18), 3), ((.c (.i .i64 3)), 0)], none, []⟩])
 (.cond (.t 19)
 (.seq (.ops [⟨(some 20), 22, .call 237 [], none, []⟩, ⟨(some 2), 4, .mv (.t 20), none, []⟩])
 .ret)
 .skip))
 (.seq (.ops [⟨(some 2), 4, .mv (.c (.f 18438243695727462560)), none, []⟩])
 .ret))
 (.seq (.ops [⟨(some 22), 24, .bin .eql (.t 4) (.c (.i .i64 4)), none, []⟩, ⟨(some 21), 23, .mv (.t 22), none, []⟩])
 (.cond (.t 21)
 (.seq (.seq (.ops [⟨(some 23), 25, .mv (.t 0), none, []⟩, ⟨(some 24), 26, .call 132 [((.t 23), 3), ((.c (.i .i64 2)), 0)], none, []⟩])
 (.cond (.t 24)
 (.seq (.ops [⟨(some 25), 27, .call 238 [], none, []⟩, ⟨(some 2), 4, .mv (.t 25), none, []⟩])
 .ret)
 .skip))
 (.seq (.ops [⟨(some 2), 4, .mv (.c (.f 4591870180066957722)), none, []⟩])
 .ret))
 .skip))))))))))))
 (.seq (.ops [⟨(some 26), 28, .mv (.t 0), none, []⟩, ⟨(some 27), 29, .call 142 [((.t 26), 3), ((.c (.i .i64 4001)), 0)], none, []⟩, ⟨(some 28), 30, .bin .sub (.t 27) (.c (.i .i64 2000)), none, []⟩, ⟨(some 29), 31, .toF (.t 28), none, []⟩, ⟨(some 30), 32, .bin .quo (.t 29) (.c (.f 4620693217682128896)), none, []⟩, ⟨(some 2), 4, .mv (.t 30), none, []⟩])
 .ret)))
theorem k233 : compCode Try.prog Try.f233.ntmps Try.f233.body.get! = some c233 := by kernel_rfl
theorem r233 : resTmps Try.prog Try.f233.results.toList = some [.tmp 2] := by kernel_rfl
def c232 : TCode := (.seq (.ops [⟨(some 2), 4, .mv (.c (.i .i64 0)), none, []⟩])
 (.seq (.seq (.ops [⟨(some 3), 5, .mv (.t 0), none, []⟩, ⟨(some 4), 6, .call 142 [((.t 3), 3), ((.c (.i .i64 14)), 0)], none, []⟩])
 (.block 0 (.seq (.ops [⟨(some 6), 8, .bin .eql (.t 4) (.c (.i .i64 0)), none, []⟩, ⟨(some 5), 7, .mv (.t 6), none, []⟩])
 (.cond (.t 5)
 (.seq (.ops [⟨(some 2), 4, .mv (.c (.i .i64 (-9223372036854775808))), none, []⟩])
 .ret)
 (.seq (.ops [⟨(some 8), 10, .bin .eql (.t 4) (.c (.i .i64 1)), none, []⟩, ⟨(some 7), 9, .mv (.t 8), none, []⟩])
 (.cond (.t 7)
 (.seq (.ops [⟨(some 2), 4, .mv (.c (.i .i64 9223372036854775807)), none, []⟩])
 .ret)
 (.seq (.ops [⟨(some 10), 12, .bin .eql (.t 4) (.c (.i .i64 2)), none, []⟩, ⟨(some 9), 11, .mv (.t 10), none, []⟩])
 (.cond (.t 9)
 (.seq (.ops [⟨(some 2), 4, .mv (.c (.i .i64 0)), none, []⟩])
 .ret)
 (.seq (.ops [⟨(some 12), 14, .bin .eql (.t 4) (.c (.i .i64 3)), none, []⟩, ⟨(some 11), 13, .mv (.t 12), none, []⟩])
 (.cond (.t 11)
 (.seq (.ops [⟨(some 2), 4, .mv (.c (.i .i64 (-1))), none, []⟩])
 .ret)
 (.seq (.ops [⟨(some 14), 16, .bin .eql (.t 4) (.c (.i .i64 4)), none, []⟩, ⟨(some 13), 15, .mv (.t 14), none, []⟩])
 (.cond (.t 13)
 (.seq (.ops [⟨(some 15), 17, .mv (.t 0), none, []⟩, ⟨(some 16), 18, .call 142 [((.t 15), 3), ((.c (.i .i64 2000000000)), 0)], none, []⟩, ⟨(some 17), 19, .bin .mul (.t 16) (.c (.i .i64 3037000500)), none, []⟩, ⟨(some 2), 4, .mv (.t 17), none, []⟩])
 .ret)
 .skip))))))))))))
 (.seq (.ops [⟨(some 18), 20, .mv (.t 0), none, []⟩, ⟨(some 19), 21, .call 142 [((.t 18), 3), ((.c (.i .i64 41)), 0)], none, []⟩, ⟨(some 20), 22, .bin .sub (.t 19) (.c (.i .i64 12)), none, []⟩, ⟨(some 2), 4, .mv (.t 20), none, []⟩])
 .ret)))
theorem k232 : compCode Try.prog Try.f232.ntmps Try.f232.body.get! = some c232 := by kernel_rfl
theorem r232 : resTmps Try.prog Try.f232.results.toList = some [.tmp 2] := by kernel_rfl
def c212 : TCode := (.seq (.ops [⟨(some 4), 6, .mv (.c (.i .i64 0)), none, []⟩, ⟨(some 5), 7, .mv (.c (.f 0)), none, []⟩, ⟨(some 6), 8, .mv (.c (.f 0)), none, []⟩])
 (.seq (.seq (.ops [⟨(some 8), 10, .mv (.t 1), none, []⟩])
 (.block 0 (.seq (.ops [⟨(some 10), 12, .bin .eql (.t 8) (.c (.i .i64 1)), none, []⟩, ⟨(some 9), 11, .mv (.t 10), none, []⟩])
 (.cond (.t 9)
 (.seq (.ops [⟨(some 11), 13, .mv (.t 0), none, []⟩, ⟨(some 12), 14, .call 232 [((.t 11), 3)], none, []⟩, ⟨(some 4), 6, .mv (.t 12), none, []⟩, ⟨(some 5), 7, .mv (.c (.f 0)), none, []⟩, ⟨(some 6), 8, .mv (.c (.f 0)), none, []⟩])
 .ret)
 (.seq (.ops [⟨(some 14), 16, .bin .eql (.t 8) (.c (.i .i64 2)), none, []⟩, ⟨(some 13), 15, .mv (.t 14), none, []⟩])
 (.cond (.t 13)
 (.seq (.ops [⟨(some 15), 17, .mv (.t 0), none, []⟩, ⟨(some 16), 18, .call 233 [((.t 15), 3)], none, []⟩, ⟨(some 4), 6, .mv (.c (.i .i64 0)), none, []⟩, ⟨(some 5), 7, .mv (.t 16), none, []⟩, ⟨(some 6), 8, .mv (.c (.f 0)), none, []⟩])
 .ret)
 (.seq (.ops [⟨(some 18), 20, .bin .eql (.t 8) (.c (.i .i64 3)), none, []⟩, ⟨(some 17), 19, .mv (.t 18), none, []⟩])
 (.cond (.t 17)
 (.seq (.ops [⟨(some 19), 21, .mv (.t 0), none, []⟩, ⟨(some 20), 22, .call 233 [((.t 19), 3)], none, []⟩, ⟨(some 7), 9, .mv (.t 20), none, []⟩])
 (.seq (.ops [⟨(some 21), 23, .mv (.t 7), none, []⟩, ⟨(some 22), 24, .mv (.t 0), none, []⟩, ⟨(some 23), 25, .call 233 [((.t 22), 3)], none, []⟩, ⟨(some 4), 6, .mv (.c (.i .i64 0)), none, []⟩, ⟨(some 5), 7, .mv (.t 21), none, []⟩, ⟨(some 6), 8, .mv (.t 23), none, []⟩])
 .ret))
 .skip))))))))
 (.seq (.ops [⟨(some 24), 26, .mv (.t 0), none, []⟩, ⟨(some 25), 27, .call 142 [((.t 24), 3), ((.c (.i .i64 2)), 0)], none, []⟩, ⟨(some 4), 6, .mv (.t 25), none, []⟩, ⟨(some 5), 7, .mv (.c (.f 0)), none, []⟩, ⟨(some 6), 8, .mv (.c (.f 0)), none, []⟩])
 .ret)))
theorem k212 : compCode Try.prog Try.f212.ntmps Try.f212.body.get! = some c212 := by kernel_rfl
theorem r212 : resTmps Try.prog Try.f212.results.toList = some [.tmp 4, .tmp 5, .tmp 6] := by kernel_rfl
def c173 : TCode := (.seq (.ops [⟨(some 4), 6, .box 4 (.c (.ag [(.i .i64 0), (.i .i64 0), (.f 0), (.f 0)])), none, []⟩])
 (.seq (.ops [⟨(some 9), 11, .mv (.t 0), none, []⟩, ⟨(some 10), 12, .mv (.t 1), none, []⟩, ⟨(some 11), 13, .call 212 [((.t 9), 3), ((.t 10), 0)], none, []⟩, ⟨(some 8), 10, .mv (.t 11), none, []⟩, ⟨(some 12), 14, .ext 0 (.t 8), none, []⟩, ⟨(some 13), 15, .ext 1 (.t 8), none, []⟩, ⟨(some 14), 16, .ext 2 (.t 8), none, []⟩, ⟨(some 5), 7, .mv (.t 12), none, []⟩, ⟨(some 6), 8, .mv (.t 13), none, []⟩, ⟨(some 7), 9, .mv (.t 14), none, []⟩])
 (.seq (.ops [⟨(some 15), 17, .mv (.t 1), none, []⟩, ⟨(some 16), 18, .mv (.t 5), none, []⟩, ⟨(some 17), 19, .mv (.t 6), none, []⟩, ⟨(some 18), 20, .mv (.t 7), none, []⟩, ⟨(some 19), 21, .build [(.i .i64 0), (.i .i64 0), (.f 0), (.f 0)] [(0, 1, (.t 15)), (1, 1, (.t 16)), (2, 1, (.t 17)), (3, 1, (.t 18))], none, []⟩, ⟨none, 1002005, .store 4 (.t 4) (.t 19), none, []⟩])
 .ret)))
theorem k173 : compCode Try.prog Try.f173.ntmps Try.f173.body.get! = some c173 := by kernel_rfl
theorem r173 : resTmps Try.prog Try.f173.results.toList = some [.cell 4 true 4] := by kernel_rfl
def c182 : TCode := (.seq (.ops [⟨(some 2), 4, .box 4 (.c (.ag [(.i .i64 0), (.i .i64 0), (.f 0), (.f 0)])), none, []⟩])
 (.seq (.ops [⟨(some 4), 6, .mv (.t 0), none, []⟩, ⟨(some 5), 7, .mv (.t 0), none, []⟩, ⟨(some 6), 8, .call 142 [((.t 5), 3), ((.c (.i .i64 4)), 0)], none, []⟩, ⟨(some 7), 9, .bin .add (.c (.i .i64 1)) (.t 6), none, []⟩, ⟨(some 8), 10, .call 173 [((.t 4), 3), ((.t 7), 0)], none, []⟩, ⟨(some 3), 5, .box 4 (.c (.ag [(.i .i64 0), (.i .i64 0), (.f 0), (.f 0)])), none, []⟩, ⟨none, 1001006, .store 4 (.t 3) (.t 8), none, []⟩])
 (.seq (.seq (.ops [⟨(some 9), 11, .mv (.t 0), none, []⟩, ⟨(some 10), 12, .call 132 [((.t 9), 3), ((.c (.i .i64 6)), 0)], none, []⟩])
 (.cond (.t 10)
 (.seq (.ops [⟨(some 11), 13, .mv (.t 0), none, []⟩, ⟨(some 12), 14, .call 142 [((.t 11), 3), ((.c (.i .i64 4)), 0)], none, []⟩])
 (.block 0 (.seq (.ops [⟨(some 15), 17, .bin .eql (.t 12) (.c (.i .i64 0)), none, []⟩, ⟨(some 14), 16, .mv (.t 15), none, []⟩])
 (.cond (.t 14)
 (.ops [⟨(some 16), 18, .mv (.t 0), none, []⟩, ⟨(some 17), 19, .call 142 [((.t 16), 3), ((.c (.i .i64 9)), 0)], none, []⟩, ⟨(some 18), 20, .bin .sub (.t 17) (.c (.i .i64 2)), none, []⟩, ⟨(some 19), 21, .faddr 0 1 (.t 3), none, []⟩, ⟨none, 1006004, .store 1 (.t 19) (.t 18), none, []⟩])
 (.seq (.ops [⟨(some 21), 23, .bin .eql (.t 12) (.c (.i .i64 1)), none, []⟩, ⟨(some 20), 22, .mv (.t 21), none, []⟩])
 (.cond (.t 20)
 (.ops [⟨(some 22), 24, .mv (.t 0), none, []⟩, ⟨(some 23), 25, .call 142 [((.t 22), 3), ((.c (.i .i64 5)), 0)], none, []⟩, ⟨(some 24), 26, .bin .sub (.t 23) (.c (.i .i64 1)), none, []⟩, ⟨(some 25), 27, .faddr 1 1 (.t 3), none, []⟩, ⟨none, 1008004, .store 1 (.t 25) (.t 24), none, []⟩])
 (.seq (.ops [⟨(some 27), 29, .bin .eql (.t 12) (.c (.i .i64 2)), none, []⟩, ⟨(some 26), 28, .mv (.t 27), none, []⟩])
 (.cond (.t 26)
 (.ops [⟨(some 28), 30, .mv (.t 0), none, []⟩, ⟨(some 29), 31, .call 142 [((.t 28), 3), ((.c (.i .i64 2)), 0)], none, []⟩, ⟨(some 30), 32, .toF (.t 29), none, []⟩, ⟨(some 31), 33, .bin .mul (.c (.f 4602678819172646912)) (.t 30), none, []⟩, ⟨(some 32), 34, .un .neg (.t 31), none, []⟩, ⟨(some 33), 35, .faddr 3 1 (.t 3), none, []⟩, ⟨none, 1010006, .store 1 (.t 33) (.t 32), none, []⟩])
 (.ops [⟨(some 13), 15, .faddr 2 1 (.t 3), none, []⟩, ⟨none, 1004001, .store 1 (.t 13) (.c (.f 4607182418800017408)), none, []⟩])))))))))
 .skip))
 (.seq (.ops [⟨(some 34), 36, .load true 4 (.t 3), none, []⟩, ⟨none, 1011001, .store 4 (.t 2) (.t 34), none, []⟩])
 .ret))))
theorem k182 : compCode Try.prog Try.f182.ntmps Try.f182.body.get! = some c182 := by kernel_rfl
theorem r182 : resTmps Try.prog Try.f182.results.toList = some [.cell 2 true 4] := by kernel_rfl
theorem dword_lt (s : Bool) (r : Nat) (hr : r < 9223372036854775808) : Ieee.double.word s r < 18446744073709551616 := by
 have h : Ieee.double.signWeight = 9223372036854775808 := by decide
 unfold Ieee.Format.word
 rw [h]
 split <;> omega
theorem dinf : Ieee.double.infRung = 9218868437227405312 := by decide
theorem dbin : Ieee.double.binade = 4503599627370496 := by decide
theorem dnear_lt (s : Bool) (m : Nat) (p : Int) : Ieee.double.nearest s m p < 18446744073709551616 := by
 unfold Ieee.Format.nearest
 split
 ·exact dword_lt _ _ (by omega)
 ·refine dword_lt _ _ ?_
  rw [dinf]
  omega
theorem dwrite_lt (d : Ieee.Datum) : Ieee.double.write d < 18446744073709551616 := by
 cases d with
 | number s m p => exact dnear_lt s m p
 | infinity s => exact dword_lt _ _ (by rw [dinf]; omega)
 | nan s f =>
  refine dword_lt _ _ ?_
  rw [dinf, dbin]
  omega
theorem fOk_elim {o : Option Ieee.Datum} : fOk ((o.map Ieee.double.write).elim nanC canon) := by
 cases o with
 | none => exact ⟨nanC, by decide, by decide +kernel⟩
 | some d => exact ⟨_, dwrite_lt d, rfl⟩
theorem fOk_mul (x y : Nat) : fOk (fltArith .mul x y) := fOk_elim (o := (Ieee.double.read x).product (Ieee.double.read y))
theorem fOk_quo (x y : Nat) : fOk (fltArith .quo x y) := fOk_elim (o := (Ieee.double.read x).quotient (Ieee.double.fractionBits + 2) (Ieee.double.read y))
theorem fOk_neg {x : Nat} (hx : fOk x) : fOk (canon (Op.negFloat .f64 x)) := ⟨_, by
 unfold Op.negFloat
 exact Nat.xor_lt_two_pow (n := 64) (fOk_lt hx) (by decide), rfl⟩
theorem fOk_c1 : fOk 9094988921128908188 := ⟨9094988921128908188, by omega, by decide +kernel⟩
theorem fOk_c2 : fOk 18438243695727462560 := ⟨18438243695727462560, by omega, by decide +kernel⟩
theorem fOk_c3 : fOk 4591870180066957722 := ⟨4591870180066957722, by omega, by decide +kernel⟩
theorem fOk_c4 : fOk 4607182418800017408 := ⟨4607182418800017408, by omega, by decide +kernel⟩
theorem w237  : Contract Try.prog false 237 [] [] [.f (fltArith .quo 0 0)] [] := by
 refine mk_contract [] Try.func237 (c := Try.f237.body.get!) (by kernel_rfl) k237 r237 (of_decide_eq_true rfl) fun _ => ?_
 unfold c237; simp
theorem w238  : Contract Try.prog false 238 [] [] [.f (fltArith .quo 4607182418800017408 0)] [] := by
 refine mk_contract [] Try.func238 (c := Try.f238.body.get!) (by kernel_rfl) k238 r238 (of_decide_eq_true rfl) fun _ => ?_
 unfold c238; simp
def in64 (n : Int) : Prop := -9223372036854775808 ≤ n ∧ n ≤ 9223372036854775807
theorem in64_wrap (n : Int) : in64 (IntKind.i64.wrap n) := by
 unfold in64
 rw [IntKind.wrap_i64]
 omega
theorem in64_small {n : Int} (h0 : -1000 ≤ n) (h1 : n ≤ 1000) : in64 n := ⟨by omega, by omega⟩
set_option maxRecDepth 100000 in
theorem w232 (bs : List Int) (i0 : Nat) (h0 : Int) (hb : bs.length ≤ 2^40) (hi0 : i0 ≤ bs.length) : ∃ x : Nat × Int × Int, (x.1 ≤ bs.length ∧ in64 x.2.2) ∧ Contract Try.prog true 232 [.own] [curT bs i0 h0] [.i .i64 x.2.2] [some (curT bs x.1 x.2.1)] := by
 refine mk_contractE [some [(1, 0)]] Try.func232 (c := Try.f232.body.get!) (by kernel_rfl) k232 r232 (of_decide_eq_true rfl) ?_
 unfold c232; unfold curT; simp
 obtain ⟨⟨i1, h1, y⟩, ⟨a1, b1, c1⟩, hC⟩ := w142 bs i0 h0 14 hb hi0
 simp only at a1 b1 c1 hC
 unfold curT at hC
 refine callW_ms [.own, .ro] ?_
 simp
 refine callX_of hC (by simp) ?_
 simp
 refine ⟨fun h => ?_, fun h => ?_⟩
 ·refine exK_of (i1, h1, -9223372036854775808) ⟨a1, ⟨by simp only; omega, by simp only; omega⟩⟩ ?_
  simp
 refine ⟨fun h => ?_, fun h => ?_⟩
 ·refine exK_of (i1, h1, 9223372036854775807) ⟨a1, ⟨by simp only; omega, by simp only; omega⟩⟩ ?_
  simp
 refine ⟨fun h => ?_, fun h => ?_⟩
 ·refine exK_of (i1, h1, 0) ⟨a1, ⟨by simp only; omega, by simp only; omega⟩⟩ ?_
  simp
 refine ⟨fun h => ?_, fun h => ?_⟩
 ·refine exK_of (i1, h1, -1) ⟨a1, ⟨by simp only; omega, by simp only; omega⟩⟩ ?_
  simp
 refine ⟨fun h => ?_, fun h => ?_⟩
 ·obtain ⟨⟨i2, h2, y2⟩, ⟨a2, b2, c2⟩, hC2⟩ := w142 bs i1 h1 2000000000 hb a1
  simp only at a2 b2 c2 hC2
  unfold curT at hC2
  refine callW_ms [.own, .ro] ?_
  simp
  refine callX_of hC2 (by simp) ?_
  simp
  refine exK_of (i2, h2, IntKind.i64.wrap (y2 * 3037000500)) ⟨a2, in64_wrap _⟩ ?_
  simp
 ·obtain ⟨⟨i2, h2, y2⟩, ⟨a2, b2, c2⟩, hC2⟩ := w142 bs i1 h1 41 hb a1
  simp only at a2 b2 c2 hC2
  unfold curT at hC2
  refine callW_ms [.own, .ro] ?_
  simp
  refine callX_of hC2 (by simp) ?_
  simp
  refine exK_of (i2, h2, IntKind.i64.wrap (y2 - 12)) ⟨a2, in64_wrap _⟩ ?_
  simp
set_option maxRecDepth 100000 in
theorem w233 (bs : List Int) (i0 : Nat) (h0 : Int) (hb : bs.length ≤ 2^40) (hi0 : i0 ≤ bs.length) : ∃ x : Nat × Int × Nat, (x.1 ≤ bs.length ∧ fOk x.2.2) ∧ Contract Try.prog true 233 [.own] [curT bs i0 h0] [.f x.2.2] [some (curT bs x.1 x.2.1)] := by
 refine mk_contractE [some [(1, 0)]] Try.func233 (c := Try.f233.body.get!) (by kernel_rfl) k233 r233 (of_decide_eq_true rfl) ?_
 unfold c233; unfold curT; simp
 obtain ⟨⟨i1, h1, y1⟩, ⟨a1, b1, c1⟩, hC1⟩ := w142 bs i0 h0 12 hb hi0
 simp only at a1 b1 c1 hC1
 unfold curT at hC1
 refine callW_ms [.own, .ro] ?_
 simp
 refine callX_of hC1 (by simp) ?_
 simp
 refine ⟨fun h => ?_, fun h => ?_⟩
 ·refine exK_of (i1, h1, 0) ⟨a1, fOk_zero⟩ ?_
  simp
 refine ⟨fun h => ?_, fun h => ?_⟩
 ·obtain ⟨⟨i2, h2, y2⟩, ⟨a2, b2, c2⟩, hC2⟩ := w142 bs i1 h1 4 hb a1
  simp only at a2 b2 c2 hC2
  unfold curT at hC2
  refine callW_ms [.own, .ro] ?_
  simp
  refine callX_of hC2 (by simp) ?_
  simp
  refine exK_of (i2, h2, canon (Op.negFloat .f64 (fltArith .mul 4598175219545276416 (canon (FloatKind.f64.nearest y2))))) ⟨a2, fOk_neg (fOk_mul _ _)⟩ ?_
  simp
 refine ⟨fun h => ?_, fun h => ?_⟩
 ·refine exK_of (i1, h1, 9094988921128908188) ⟨a1, fOk_c1⟩ ?_
  simp
 refine ⟨fun h => ?_, fun h => ?_⟩
 ·obtain ⟨⟨i2, h2, y2⟩, a2, hC2⟩ := w132 bs i1 h1 3 hb a1
  simp only at a2 hC2
  unfold curT at hC2
  refine callW_ms [.own, .ro] ?_
  simp
  refine callX_of hC2 (by simp) ?_
  cases y2 with
  | true =>
   simp
   refine callW_ms [] ?_
   simp
   refine callX_of w237 (by simp) ?_
   simp
   refine exK_of (i2, h2, fltArith .quo 0 0) ⟨a2, fOk_quo 0 0⟩ ?_
   simp
  | false =>
   simp
   refine exK_of (i2, h2, 18438243695727462560) ⟨a2, fOk_c2⟩ ?_
   simp
 refine ⟨fun h => ?_, fun h => ?_⟩
 ·obtain ⟨⟨i2, h2, y2⟩, a2, hC2⟩ := w132 bs i1 h1 2 hb a1
  simp only at a2 hC2
  unfold curT at hC2
  refine callW_ms [.own, .ro] ?_
  simp
  refine callX_of hC2 (by simp) ?_
  cases y2 with
  | true =>
   simp
   refine callW_ms [] ?_
   simp
   refine callX_of w238 (by simp) ?_
   simp
   refine exK_of (i2, h2, fltArith .quo 4607182418800017408 0) ⟨a2, fOk_quo 4607182418800017408 0⟩ ?_
   simp
  | false =>
   simp
   refine exK_of (i2, h2, 4591870180066957722) ⟨a2, fOk_c3⟩ ?_
   simp
 ·obtain ⟨⟨i2, h2, y2⟩, ⟨a2, b2, c2⟩, hC2⟩ := w142 bs i1 h1 4001 hb a1
  simp only at a2 b2 c2 hC2
  unfold curT at hC2
  refine callW_ms [.own, .ro] ?_
  simp
  refine callX_of hC2 (by simp) ?_
  simp
  refine exK_of (i2, h2, fltArith .quo (canon (FloatKind.f64.nearest (IntKind.i64.wrap (y2 - 2000)))) 4620693217682128896) ⟨a2, fOk_quo _ _⟩ ?_
  simp
set_option maxRecDepth 100000 in
theorem w212 (bs : List Int) (i0 : Nat) (h0 k : Int) (hb : bs.length ≤ 2^40) (hi0 : i0 ≤ bs.length) : ∃ x : Nat × Int × Int × Nat × Nat, (x.1 ≤ bs.length ∧ fOk x.2.2.2.1 ∧ fOk x.2.2.2.2 ∧ in64 x.2.2.1) ∧ Contract Try.prog true 212 [.own, .ro] [curT bs i0 h0, .i .i64 k] [.i .i64 x.2.2.1, .f x.2.2.2.1, .f x.2.2.2.2] [some (curT bs x.1 x.2.1)] := by
 refine mk_contractE [some [(1, 0)]] Try.func212 (c := Try.f212.body.get!) (by kernel_rfl) k212 r212 (of_decide_eq_true rfl) ?_
 unfold c212; unfold curT; simp
 refine ⟨fun h => ?_, fun h => ?_⟩
 ·obtain ⟨⟨i1, h1, y1⟩, ⟨a1, g1⟩, hC1⟩ := w232 bs i0 h0 hb hi0
  simp only at a1 hC1
  unfold curT at hC1
  refine callW_ms [.own] ?_
  simp
  refine callX_of hC1 (by simp) ?_
  simp
  refine exK_of (i1, h1, y1, 0, 0) ⟨a1, fOk_zero, fOk_zero, g1⟩ ?_
  simp
 refine ⟨fun h => ?_, fun h => ?_⟩
 ·obtain ⟨⟨i1, h1, y1⟩, ⟨a1, b1⟩, hC1⟩ := w233 bs i0 h0 hb hi0
  simp only at a1 hC1
  unfold curT at hC1
  refine callW_ms [.own] ?_
  simp
  refine callX_of hC1 (by simp) ?_
  simp
  refine exK_of (i1, h1, 0, y1, 0) ⟨a1, b1, fOk_zero, in64_small (by simp only; omega) (by simp only; omega)⟩ ?_
  simp
 refine ⟨fun h => ?_, fun h => ?_⟩
 ·obtain ⟨⟨i1, h1, y1⟩, ⟨a1, b1⟩, hC1⟩ := w233 bs i0 h0 hb hi0
  simp only at a1 hC1
  unfold curT at hC1
  refine callW_ms [.own] ?_
  simp
  refine callX_of hC1 (by simp) ?_
  simp
  obtain ⟨⟨i2, h2, y2⟩, ⟨a2, b2⟩, hC2⟩ := w233 bs i1 h1 hb a1
  simp only at a2 hC2
  unfold curT at hC2
  refine callW_ms [.own] ?_
  simp
  refine callX_of hC2 (by simp) ?_
  simp
  refine exK_of (i2, h2, 0, y1, y2) ⟨a2, b1, b2, in64_small (by simp only; omega) (by simp only; omega)⟩ ?_
  simp
 ·obtain ⟨⟨i1, h1, y1⟩, ⟨a1, b1, c1⟩, hC1⟩ := w142 bs i0 h0 2 hb hi0
  simp only at a1 b1 c1 hC1
  unfold curT at hC1
  refine callW_ms [.own, .ro] ?_
  simp
  refine callX_of hC1 (by simp) ?_
  simp
  refine exK_of (i1, h1, y1, 0, 0) ⟨a1, fOk_zero, fOk_zero, in64_small (by simp only; omega) (by have := c1 (by omega); simp only; omega)⟩ ?_
  simp
set_option maxRecDepth 100000 in
theorem w173 (bs : List Int) (i0 : Nat) (h0 k : Int) (hb : bs.length ≤ 2^40) (hi0 : i0 ≤ bs.length) : ∃ x : Nat × Int × ValP, (x.1 ≤ bs.length ∧ valOkF x.2.2 ∧ in64 x.2.2.2.1) ∧ Contract Try.prog true 173 [.own, .ro] [curT bs i0 h0, .i .i64 k] [valV x.2.2] [some (curT bs x.1 x.2.1)] := by
 refine mk_contractE [some [(1, 0)]] Try.func173 (c := Try.f173.body.get!) (by kernel_rfl) k173 r173 (of_decide_eq_true rfl) ?_
 unfold c173; unfold curT valV; simp
 obtain ⟨⟨i1, h1, y, f1, f2⟩, ⟨a1, b1, c1, g1⟩, hC1⟩ := w212 bs i0 h0 k hb hi0
 simp only at a1 b1 c1 hC1
 unfold curT at hC1
 refine callW_ms [.own, .ro] ?_
 simp
 refine callX_of hC1 (by simp) ?_
 simp
 refine exK_of (i1, h1, (k, y, f1, f2)) ⟨a1, ⟨b1, c1⟩, g1⟩ ?_
 simp
set_option maxRecDepth 100000 in
theorem w182 (bs : List Int) (i0 : Nat) (h0 : Int) (hb : bs.length ≤ 2^40) (hi0 : i0 ≤ bs.length) : ∃ x : Nat × Int × ValP, (x.1 ≤ bs.length ∧ valOkF x.2.2 ∧ in64 x.2.2.2.1) ∧ Contract Try.prog true 182 [.own] [curT bs i0 h0] [valV x.2.2] [some (curT bs x.1 x.2.1)] := by
 refine mk_contractE [some [(1, 0)]] Try.func182 (c := Try.f182.body.get!) (by kernel_rfl) k182 r182 (of_decide_eq_true rfl) ?_
 unfold c182; unfold curT valV; simp
 obtain ⟨⟨i1, h1, y1⟩, ⟨a1, b1, c1⟩, hC1⟩ := w142 bs i0 h0 4 hb hi0
 simp only at a1 b1 c1 hC1
 unfold curT at hC1
 refine callW_ms [.own, .ro] ?_
 simp
 refine callX_of hC1 (by simp) ?_
 simp
 obtain ⟨⟨i2, h2, v2⟩, ⟨a2, b2, g2⟩, hC2⟩ := w173 bs i1 h1 (IntKind.i64.wrap (1 + y1)) hb a1
 simp only at a2 b2 hC2
 unfold curT valV at hC2
 refine callW_ms [.own, .ro] ?_
 simp
 refine callX_of hC2 (by simp) ?_
 simp
 obtain ⟨⟨i3, h3, y3⟩, a3, hC3⟩ := w132 bs i2 h2 6 hb a2
 simp only at a3 hC3
 unfold curT at hC3
 refine callW_ms [.own, .ro] ?_
 simp
 refine callX_of hC3 (by simp) ?_
 cases y3 with
 | false =>
  simp
  refine exK_of (i3, h3, v2) ⟨a3, b2, g2⟩ ?_
  simp
 | true =>
  simp
  obtain ⟨⟨i4, h4, y4⟩, ⟨a4, b4, c4⟩, hC4⟩ := w142 bs i3 h3 4 hb a3
  simp only at a4 b4 c4 hC4
  unfold curT at hC4
  refine callW_ms [.own, .ro] ?_
  simp
  refine callX_of hC4 (by simp) ?_
  simp
  refine ⟨fun h => ?_, fun h => ?_⟩
  ·obtain ⟨⟨i5, h5, y5⟩, ⟨a5, b5, c5⟩, hC5⟩ := w142 bs i4 h4 9 hb a4
   simp only at a5 b5 c5 hC5
   unfold curT at hC5
   refine callW_ms [.own, .ro] ?_
   simp
   refine callX_of hC5 (by simp) ?_
   simp
   refine exK_of (i5, h5, (IntKind.i64.wrap (y5 - 2), v2.2.1, v2.2.2.1, v2.2.2.2)) ⟨a5, ⟨b2.1, b2.2⟩, g2⟩ ?_
   simp
  refine ⟨fun h => ?_, fun h => ?_⟩
  ·obtain ⟨⟨i5, h5, y5⟩, ⟨a5, b5, c5⟩, hC5⟩ := w142 bs i4 h4 5 hb a4
   simp only at a5 b5 c5 hC5
   unfold curT at hC5
   refine callW_ms [.own, .ro] ?_
   simp
   refine callX_of hC5 (by simp) ?_
   simp
   refine exK_of (i5, h5, (v2.1, IntKind.i64.wrap (y5 - 1), v2.2.2.1, v2.2.2.2)) ⟨a5, ⟨b2.1, b2.2⟩, in64_wrap _⟩ ?_
   simp
  refine ⟨fun h => ?_, fun h => ?_⟩
  ·obtain ⟨⟨i5, h5, y5⟩, ⟨a5, b5, c5⟩, hC5⟩ := w142 bs i4 h4 2 hb a4
   simp only at a5 b5 c5 hC5
   unfold curT at hC5
   refine callW_ms [.own, .ro] ?_
   simp
   refine callX_of hC5 (by simp) ?_
   simp
   refine exK_of (i5, h5, (v2.1, v2.2.1, v2.2.2.1, canon (Op.negFloat .f64 (fltArith .mul 4602678819172646912 (canon (FloatKind.f64.nearest y5)))))) ⟨a5, ⟨b2.1, fOk_neg (fOk_mul _ _)⟩, g2⟩ ?_
   simp
  ·refine exK_of (i4, h4, (v2.1, v2.2.1, 4607182418800017408, v2.2.2.2)) ⟨a4, ⟨fOk_c4, b2.2⟩, g2⟩ ?_
   simp
end Go.Proofs.YtmedelmfkciblaaT


namespace Go.Proofs.YtmedelmfkciblaaT
set_option linter.unusedVariables false
set_option linter.unusedSimpArgs false
open Go
def c139 : TCode := (.seq (.ops [⟨(some 0), 2, .box 3 (.c (.ag [(.sl true 2 []), (.sl true 2 []), (.sl true 2 [])])), none, []⟩])
 (.seq (.ops [⟨(some 1), 3, .build [(.s ⟨#[]⟩), (.i .i64 0)] [(0, 1, (.c (.s ⟨#[80, 111, 115]⟩))), (1, 1, (.c (.i .i64 3)))], none, []⟩, ⟨(some 2), 4, .build [(.s ⟨#[]⟩), (.i .i64 0)] [(0, 1, (.c (.s ⟨#[86, 101, 108]⟩))), (1, 1, (.c (.i .i64 3)))], none, []⟩, ⟨(some 3), 5, .build [(.s ⟨#[]⟩), (.i .i64 0)] [(0, 1, (.c (.s ⟨#[72, 112]⟩))), (1, 1, (.c (.i .i64 1)))], none, []⟩, ⟨(some 4), 6, .build [(.s ⟨#[]⟩), (.i .i64 0)] [(0, 1, (.c (.s ⟨#[77, 97, 115, 115]⟩))), (1, 1, (.c (.i .i64 2)))], none, []⟩, ⟨(some 5), 7, .build [(.s ⟨#[]⟩), (.i .i64 0)] [(0, 1, (.c (.s ⟨#[84, 97, 103]⟩))), (1, 1, (.c (.i .i64 4)))], none, []⟩, ⟨(some 6), 8, .bslice 2 5 [(.s ⟨#[]⟩), (.i .i64 0)] [(0, (.t 1)), (1, (.t 2)), (2, (.t 3)), (3, (.t 4)), (4, (.t 5))], none, []⟩, ⟨(some 7), 9, .build [(.s ⟨#[]⟩), (.i .i64 0)] [(0, 1, (.c (.s ⟨#[83, 99, 111, 114, 101]⟩))), (1, 1, (.c (.i .i64 1)))], none, []⟩, ⟨(some 8), 10, .build [(.s ⟨#[]⟩), (.i .i64 0)] [(0, 1, (.c (.s ⟨#[87, 105, 110, 100]⟩))), (1, 1, (.c (.i .i64 2)))], none, []⟩, ⟨(some 9), 11, .build [(.s ⟨#[]⟩), (.i .i64 0)] [(0, 1, (.c (.s ⟨#[70, 108, 111, 119]⟩))), (1, 1, (.c (.i .i64 3)))], none, []⟩, ⟨(some 10), 12, .build [(.s ⟨#[]⟩), (.i .i64 0)] [(0, 1, (.c (.s ⟨#[79, 112, 101, 110]⟩))), (1, 1, (.c (.i .i64 4)))], none, []⟩, ⟨(some 11), 13, .bslice 2 4 [(.s ⟨#[]⟩), (.i .i64 0)] [(0, (.t 7)), (1, (.t 8)), (2, (.t 9)), (3, (.t 10))], none, []⟩, ⟨(some 12), 14, .build [(.s ⟨#[]⟩), (.i .i64 0)] [(0, 1, (.c (.s ⟨#[72, 105, 116]⟩))), (1, 1, (.c (.i .i64 1)))], none, []⟩, ⟨(some 13), 15, .build [(.s ⟨#[]⟩), (.i .i64 0)] [(0, 1, (.c (.s ⟨#[80, 105, 110, 103]⟩))), (1, 1, (.c (.i .i64 2)))], none, []⟩, ⟨(some 14), 16, .bslice 2 2 [(.s ⟨#[]⟩), (.i .i64 0)] [(0, (.t 12)), (1, (.t 13))], none, []⟩, ⟨(some 15), 17, .build [(.sl true 2 []), (.sl true 2 []), (.sl true 2 [])] [(0, 1, (.t 6)), (1, 1, (.t 11)), (2, 1, (.t 14))], none, []⟩, ⟨none, 1001015, .store 3 (.t 0) (.t 15), none, []⟩])
 .ret))
theorem k139 : compCode Try.prog Try.f139.ntmps Try.f139.body.get! = some c139 := by kernel_rfl
theorem r139 : resTmps Try.prog Try.f139.results.toList = some [.cell 0 true 3] := by kernel_rfl
def c137 : TCode := (.seq (.ops [⟨(some 2), 4, .box 3 (.c (.ag [(.sl true 2 []), (.sl true 2 []), (.sl true 2 [])])), none, []⟩])
 (.seq (.ops [⟨(some 6), 8, .call 139 [], none, []⟩, ⟨(some 3), 5, .box 3 (.c (.ag [(.sl true 2 []), (.sl true 2 []), (.sl true 2 [])])), none, []⟩, ⟨none, 1001002, .store 3 (.t 3) (.t 6), none, []⟩])
 (.seq (.seq (.ops [⟨(some 7), 9, .mv (.t 0), none, []⟩, ⟨(some 8), 10, .call 142 [((.t 7), 3), ((.c (.i .i64 10)), 0)], none, []⟩])
 (.block 0 (.seq (.ops [⟨(some 10), 12, .bin .eql (.t 8) (.c (.i .i64 0)), none, []⟩, ⟨(some 9), 11, .mv (.t 10), none, []⟩])
 (.cond (.t 9)
 (.seq (.ops [⟨(some 11), 13, .faddr 0 1 (.t 3), none, []⟩, ⟨(some 12), 14, .load false 1 (.t 11), none, []⟩, ⟨(some 13), 15, .slice false 2 (.t 12) none (some (.c (.i .i64 3))), none, []⟩, ⟨(some 14), 16, .faddr 0 1 (.t 3), none, []⟩, ⟨none, 1004004, .store 1 (.t 14) (.t 13), none, []⟩])
 (.ops [⟨(some 15), 17, .faddr 2 1 (.t 3), none, []⟩, ⟨none, 1005001, .store 1 (.t 15) (.c (.sl true 2 [])), none, []⟩]))
 (.seq (.ops [⟨(some 17), 19, .bin .eql (.t 8) (.c (.i .i64 1)), none, []⟩, ⟨(some 16), 18, .mv (.t 17), none, []⟩])
 (.cond (.t 16)
 (.draw [⟨(some 18), 20, .faddr 1 1 (.t 3), none, []⟩, ⟨(some 19), 21, .load false 1 (.t 18), none, []⟩, ⟨(some 20), 22, .mv (.t 0), none, []⟩, ⟨(some 21), 23, .call 142 [((.t 20), 3), ((.c (.i .i64 4)), 0)], none, [0, 1]⟩, ⟨(some 22), 24, .mv (.t 0), none, [3]⟩, ⟨(some 23), 25, .call 142 [((.t 22), 3), ((.c (.i .i64 4)), 0)], none, [0, 1]⟩, ⟨(some 24), 26, .bin .add (.c (.i .i64 1)) (.t 23), none, []⟩, ⟨(some 25), 27, .iaddr 2 (.t 19) (.t 21), none, []⟩, ⟨(some 26), 28, .faddr 1 1 (.t 25), none, []⟩, ⟨none, 1007009, .store 1 (.t 26) (.t 24), none, []⟩])
 (.seq (.ops [⟨(some 28), 30, .bin .eql (.t 8) (.c (.i .i64 2)), none, []⟩, ⟨(some 27), 29, .mv (.t 28), none, []⟩])
 (.cond (.t 27)
 (.seq (.ops [⟨(some 29), 31, .mv (.t 0), none, []⟩, ⟨(some 30), 32, .call 142 [((.t 29), 3), ((.c (.i .i64 5)), 0)], none, []⟩])
 (.block 1 (.seq (.ops [⟨(some 36), 38, .bin .eql (.t 30) (.c (.i .i64 0)), none, []⟩, ⟨(some 35), 37, .mv (.t 36), none, []⟩])
 (.cond (.t 35)
 (.ops [⟨(some 37), 39, .faddr 0 1 (.t 3), none, []⟩, ⟨(some 38), 40, .load false 1 (.t 37), none, []⟩, ⟨(some 39), 41, .iaddr 2 (.t 38) (.c (.i .i64 1)), none, []⟩, ⟨(some 40), 42, .faddr 0 1 (.t 39), none, []⟩, ⟨none, 1012004, .store 1 (.t 40) (.c (.s ⟨#[80, 111, 115]⟩)), none, []⟩])
 (.seq (.ops [⟨(some 42), 44, .bin .eql (.t 30) (.c (.i .i64 1)), none, []⟩, ⟨(some 41), 43, .mv (.t 42), none, []⟩])
 (.cond (.t 41)
 (.draw [⟨(some 43), 45, .faddr 2 1 (.t 3), none, []⟩, ⟨(some 44), 46, .load false 1 (.t 43), none, []⟩, ⟨(some 45), 47, .mv (.t 0), none, []⟩, ⟨(some 46), 48, .bslice 1 2 [(.i .i64 0)] [(0, (.c (.i .i64 0))), (1, (.c (.i .i64 5)))], none, [0, 1, 2]⟩, ⟨(some 47), 49, .call 171 [((.t 45), 3), ((.t 46), 0)], none, [0, 1]⟩, ⟨(some 48), 50, .iaddr 2 (.t 44) (.c (.i .i64 0)), none, []⟩, ⟨(some 49), 51, .faddr 1 1 (.t 48), none, []⟩, ⟨none, 1014007, .store 1 (.t 49) (.t 47), none, []⟩])
 (.seq (.ops [⟨(some 51), 53, .bin .eql (.t 30) (.c (.i .i64 2)), none, []⟩, ⟨(some 50), 52, .mv (.t 51), none, []⟩])
 (.cond (.t 50)
 (.draw [⟨(some 52), 54, .faddr 1 1 (.t 3), none, []⟩, ⟨(some 53), 55, .load false 1 (.t 52), none, []⟩, ⟨(some 54), 56, .mv (.t 0), none, []⟩, ⟨(some 55), 57, .bslice 1 4 [(.s ⟨#[]⟩)] [(0, (.c (.s ⟨#[]⟩))), (1, (.c (.s ⟨#[97, 98, 99, 100, 101, 102, 103, 104, 105, 106, 107, 108, 109]⟩))), (2, (.c (.s ⟨#[97, 49]⟩))), (3, (.c (.s ⟨#[108, 101, 116]⟩)))], none, [0, 1, 2]⟩, ⟨(some 56), 58, .call 172 [((.t 54), 3), ((.t 55), 0)], none, [0, 1]⟩, ⟨(some 57), 59, .iaddr 2 (.t 53) (.c (.i .i64 0)), none, []⟩, ⟨(some 58), 60, .faddr 0 1 (.t 57), none, []⟩, ⟨none, 1016007, .store 1 (.t 58) (.t 56), none, []⟩])
 (.seq (.ops [⟨(some 60), 62, .bin .eql (.t 30) (.c (.i .i64 3)), none, []⟩, ⟨(some 59), 61, .mv (.t 60), none, []⟩])
 (.cond (.t 59)
 (.seq (.ops [⟨(some 4), 6, .mv (.c (.i .i64 0)), none, []⟩])
 (.block 2 (.loop (.seq (.seq (.ops [⟨(some 61), 63, .mv (.t 4), none, []⟩, ⟨(some 62), 64, .bin .lss (.t 61) (.c (.i .i64 8)), none, []⟩])
 (.cond (.t 62)
 .skip
 (.exit 2)))
 (.seq (.block 3 (.ops [⟨(some 65), 67, .faddr 0 1 (.t 3), none, []⟩, ⟨(some 66), 68, .load false 1 (.t 65), none, []⟩, ⟨(some 67), 69, .mv (.t 4), none, []⟩, ⟨(some 68), 70, .bin .add (.c (.i .i64 97)) (.t 67), none, []⟩, ⟨(some 69), 71, .toInt .u8 (.t 68), none, []⟩, ⟨(some 70), 72, .bslice 1 1 [(.i .u8 0)] [(0, (.t 69))], none, []⟩, ⟨(some 71), 73, .toS (.t 70), none, []⟩, ⟨(some 72), 74, .bin .add (.c (.s ⟨#[88]⟩)) (.t 71), none, []⟩, ⟨(some 73), 75, .build [(.s ⟨#[]⟩), (.i .i64 0)] [(0, 1, (.t 72)), (1, 1, (.c (.i .i64 1)))], none, []⟩, ⟨(some 74), 76, .bslice 2 1 [(.s ⟨#[]⟩), (.i .i64 0)] [(0, (.t 73))], none, []⟩, ⟨(some 75), 77, .app 2 24 (.t 66) (.t 74), none, []⟩, ⟨(some 76), 78, .faddr 0 1 (.t 3), none, []⟩, ⟨none, 1021012, .store 1 (.t 76) (.t 75), none, []⟩]))
 (.ops [⟨(some 63), 65, .mv (.t 4), none, []⟩, ⟨(some 64), 66, .bin .add (.t 63) (.c (.i .i64 1)), none, []⟩, ⟨(some 4), 6, .mv (.t 64), none, []⟩]))))))
 (.ops [⟨(some 31), 33, .faddr 2 1 (.t 3), none, []⟩, ⟨(some 32), 34, .load false 1 (.t 31), none, []⟩, ⟨(some 33), 35, .iaddr 2 (.t 32) (.c (.i .i64 1)), none, []⟩, ⟨(some 34), 36, .faddr 0 1 (.t 33), none, []⟩, ⟨none, 1010004, .store 1 (.t 34) (.c (.s ⟨#[87, 105, 110, 100]⟩)), none, []⟩])))))))))))
 (.seq (.ops [⟨(some 78), 80, .bin .eql (.t 8) (.c (.i .i64 3)), none, []⟩, ⟨(some 77), 79, .mv (.t 78), none, []⟩])
 (.cond (.t 77)
 (.seq (.ops [⟨(some 5), 7, .mv (.c (.i .i64 0)), none, []⟩])
 (.block 4 (.loop (.seq (.seq (.ops [⟨(some 79), 81, .mv (.t 5), none, []⟩, ⟨(some 80), 82, .bin .lss (.t 79) (.c (.i .i64 7)), none, []⟩])
 (.cond (.t 80)
 .skip
 (.exit 4)))
 (.seq (.block 5 (.ops [⟨(some 83), 85, .faddr 0 1 (.t 3), none, []⟩, ⟨(some 84), 86, .load false 1 (.t 83), none, []⟩, ⟨(some 85), 87, .mv (.t 5), none, []⟩, ⟨(some 86), 88, .bin .add (.c (.i .i64 97)) (.t 85), none, []⟩, ⟨(some 87), 89, .toInt .u8 (.t 86), none, []⟩, ⟨(some 88), 90, .bslice 1 1 [(.i .u8 0)] [(0, (.t 87))], none, []⟩, ⟨(some 89), 91, .toS (.t 88), none, []⟩, ⟨(some 90), 92, .bin .add (.c (.s ⟨#[88]⟩)) (.t 89), none, []⟩, ⟨(some 91), 93, .mv (.t 5), none, []⟩, ⟨(some 92), 94, .bin .rem (.t 91) (.c (.i .i64 4)), none, []⟩, ⟨(some 93), 95, .bin .add (.c (.i .i64 1)) (.t 92), none, []⟩, ⟨(some 94), 96, .build [(.s ⟨#[]⟩), (.i .i64 0)] [(0, 1, (.t 90)), (1, 1, (.t 93))], none, []⟩, ⟨(some 95), 97, .bslice 2 1 [(.s ⟨#[]⟩), (.i .i64 0)] [(0, (.t 94))], none, []⟩, ⟨(some 96), 98, .app 2 24 (.t 84) (.t 95), none, []⟩, ⟨(some 97), 99, .faddr 0 1 (.t 3), none, []⟩, ⟨none, 1026015, .store 1 (.t 97) (.t 96), none, []⟩]))
 (.ops [⟨(some 81), 83, .mv (.t 5), none, []⟩, ⟨(some 82), 84, .bin .add (.t 81) (.c (.i .i64 1)), none, []⟩, ⟨(some 5), 7, .mv (.t 82), none, []⟩]))))))
 .skip))))))))))
 (.seq (.ops [⟨(some 98), 100, .load true 3 (.t 3), none, []⟩, ⟨none, 1027001, .store 3 (.t 2) (.t 98), none, []⟩])
 .ret))))
theorem k137 : compCode Try.prog Try.f137.ntmps Try.f137.body.get! = some c137 := by kernel_rfl
theorem r137 : resTmps Try.prog Try.f137.results.toList = some [.cell 2 true 3] := by kernel_rfl
theorem w172 (bs : List Int) (L : List ByteArray) (i : Nat) (h : Int) (hb : bs.length ≤ 2^40) (hi : i ≤ bs.length) (hL : 0 < L.length) (hL2 : L.length ≤ 256) : ∃ x : Nat × Int × ByteArray, (x.1 ≤ bs.length ∧ x.2.2 ∈ L) ∧ Contract Try.prog true 172 [.own, .own] [curT bs i h, .sl true 1 (L.map sT)] [.s x.2.2] [some (curT bs x.1 x.2.1), none] := by
 refine mk_contractE [some [(1, 0)], none] Try.func172 (c := Try.f172.body.get!) (by kernel_rfl) k172 r172 (of_decide_eq_true rfl) ?_
 unfold c172; unfold curT; simp
 obtain ⟨⟨i1, h1, y⟩, ⟨a1, a2, a3⟩, hC⟩ := w142 bs i h L.length hb hi
 simp only at a1 a2 a3 hC
 unfold curT at hC
 have hy := a3 (by omega)
 obtain ⟨z, hz⟩ : ∃ z, L[y.toNat]? = some z := get_some (by omega)
 refine callW_ms [.own, .ro] ?_
 simp
 refine callX_of hC (by simp) ?_
 simp [hz, a2]
 refine ⟨hy, exK_of (i1, h1, z) ⟨a1, List.mem_of_getElem? hz⟩ ?_⟩
 simp
abbrev DcP := List (ByteArray × Int)
def smallD (l : DcP) : Prop := l.length ≤ 20 ∧ ∀ d ∈ l, d.1.size ≤ 100
theorem small_nil : smallD [] := ⟨by simp, fun d h => by cases h⟩
theorem small_take {l : DcP} (h : smallD l) (k : Nat) : smallD (l.take k) := ⟨by have := h.1; simp; omega, fun d hd => h.2 d (List.mem_of_mem_take hd)⟩
theorem small_snoc {l : DcP} (h : smallD l) (h2 : l.length < 20) {d : ByteArray × Int} (hd : d.1.size ≤ 100) : smallD (l ++ [d]) := ⟨by simp; omega, fun x hx => by
 rcases List.mem_append.1 hx with hx | hx
 ·exact h.2 x hx
 ·rw [List.mem_singleton.1 hx]; exact hd⟩
theorem dT_kind (v : Int) : ∀ (r : DcP) (k : Nat), ((List.map dT r).modify k fun e => e.modify 1 fun x => TV.i .i64 v) = List.map dT (r.modify k fun d => (d.1, v))
 | [], k => by simp
 | d :: r, 0 => by simp
 | d :: r, k + 1 => by simpa using dT_kind v r k
theorem dT_name (s : ByteArray) : ∀ (r : DcP) (k : Nat), ((List.map dT r).modify k fun e => e.modify 0 fun x => TV.s s) = List.map dT (r.modify k fun d => (s, d.2))
 | [], k => by simp
 | d :: r, 0 => by simp
 | d :: r, k + 1 => by simpa using dT_name s r k
theorem small_mod {f : ByteArray × Int → ByteArray × Int} (hf : ∀ d : ByteArray × Int, d.1.size ≤ 100 → (f d).1.size ≤ 100) : ∀ {l : DcP} (k : Nat), smallD l → smallD (l.modify k f)
 | l, k, h => ⟨by have := h.1; simp; omega, fun x hx => by
   obtain ⟨j, hj⟩ := List.mem_iff_getElem?.1 hx
   rw [List.getElem?_modify] at hj
   obtain ⟨y, hy, rfl⟩ := Option.map_eq_some_iff.1 hj
   have := h.2 y (List.mem_of_getElem? hy)
   split
   ·exact hf y this
   ·exact this⟩
theorem xs_size (b : UInt8) : (⟨#[88]⟩ : ByteArray).size + (⟨#[b]⟩ : ByteArray).size = 2 := rfl
theorem xa_size (b : UInt8) : ((⟨#[88]⟩ : ByteArray) ++ ⟨#[b]⟩).size ≤ 100 := by rw [ByteArray.size_append, xs_size]; omega
set_option maxRecDepth 100000 in
theorem w139  : ∃ x : DcP × DcP × DcP, ((x.1.length = 5 ∧ x.2.1.length = 4 ∧ x.2.2.length = 2) ∧ smallD x.1 ∧ smallD x.2.1 ∧ smallD x.2.2) ∧ Contract Try.prog false 139 [] [] [regO x.1 x.2.1 x.2.2] [] := by
 refine mk_contractE [] Try.func139 (c := Try.f139.body.get!) (by kernel_rfl) k139 r139 (of_decide_eq_true rfl) ?_
 unfold c139; unfold regO; simp
 refine exK_of ([(⟨#[80, 111, 115]⟩, 3), (⟨#[86, 101, 108]⟩, 3), (⟨#[72, 112]⟩, 1), (⟨#[77, 97, 115, 115]⟩, 2), (⟨#[84, 97, 103]⟩, 4)], [(⟨#[83, 99, 111, 114, 101]⟩, 1), (⟨#[87, 105, 110, 100]⟩, 2), (⟨#[70, 108, 111, 119]⟩, 3), (⟨#[79, 112, 101, 110]⟩, 4)], [(⟨#[72, 105, 116]⟩, 1), (⟨#[80, 105, 110, 103]⟩, 2)]) ⟨⟨rfl, rfl, rfl⟩, ⟨by decide, by decide⟩, ⟨by decide, by decide⟩, ⟨by decide, by decide⟩⟩ ?_
 simp
set_option maxRecDepth 100000 in
theorem w137 (bs : List Int) (i0 : Nat) (h0 : Int) (hb : bs.length ≤ 2^40) (hi0 : i0 ≤ bs.length) : ∃ x : Nat × Int × DcP × DcP × DcP, (x.1 ≤ bs.length ∧ smallD x.2.2.1 ∧ smallD x.2.2.2.1 ∧ smallD x.2.2.2.2) ∧ Contract Try.prog true 137 [.own] [curT bs i0 h0] [regO x.2.2.1 x.2.2.2.1 x.2.2.2.2] [some (curT bs x.1 x.2.1)] := by
 refine mk_contractE [some [(1, 0)]] Try.func137 (c := Try.f137.body.get!) (by kernel_rfl) k137 r137 (of_decide_eq_true rfl) ?_
 unfold c137; unfold curT regO; simp
 obtain ⟨⟨c, r, e⟩, ⟨⟨l1, l2, l3⟩, s1, s2, s3⟩, hC0⟩ := w139
 simp only at l1 l2 l3 s1 s2 s3 hC0
 unfold regO at hC0
 refine callW_ms [] ?_
 simp
 refine callX_of hC0 (by simp) ?_
 simp
 obtain ⟨⟨i1, h1, y1⟩, ⟨a1, b1, c1⟩, hC1⟩ := w142 bs i0 h0 10 hb hi0
 simp only at a1 b1 c1 hC1
 unfold curT at hC1
 refine callW_ms [.own, .ro] ?_
 simp
 refine callX_of hC1 (by simp) ?_
 simp [l1, l2, l3]
 refine ⟨fun h => ?_, fun h => ?_⟩
 ·refine exK_of (i1, h1, c.take 3, r, []) ⟨a1, small_take s1 3, s2, small_nil⟩ ?_
  simp [offE]
 refine ⟨fun h => ?_, fun h => ?_⟩
 ·obtain ⟨⟨i2, h2, y2⟩, ⟨a2, b2, c2⟩, hC2⟩ := w142 bs i1 h1 4 hb a1
  simp only at a2 b2 c2 hC2
  unfold curT at hC2
  refine callW_ms [.own, .ro] ?_
  simp
  refine callX_of hC2 (by simp) ?_
  simp
  obtain ⟨⟨i3, h3, y3⟩, ⟨a3, b3, c3⟩, hC3⟩ := w142 bs i2 h2 4 hb a2
  simp only at a3 b3 c3 hC3
  unfold curT at hC3
  refine callW_ms [.own, .ro] ?_
  simp
  refine callX_of hC3 (by simp) ?_
  simp
  have hy := c2 (by omega)
  obtain ⟨d, hd⟩ : ∃ d, r[y2.toNat]? = some d := get_some (by omega)
  simp [hd, b2, dT_kind]
  refine ⟨hy, exK_of (i3, h3, c, r.modify y2.toNat (fun d => (d.1, IntKind.i64.wrap (1 + y3))), e) ⟨a3, s1, small_mod (f := fun d => (d.1, IntKind.i64.wrap (1 + y3))) (fun d h => h) _ s2, s3⟩ ?_⟩
  simp
 refine ⟨fun h => ?_, fun h => ?_⟩
 ·obtain ⟨⟨i2, h2, y2⟩, ⟨a2, b2, c2⟩, hC2⟩ := w142 bs i1 h1 5 hb a1
  simp only at a2 b2 c2 hC2
  unfold curT at hC2
  refine callW_ms [.own, .ro] ?_
  simp
  refine callX_of hC2 (by simp) ?_
  simp
  refine ⟨fun h => ?_, fun h => ?_⟩
  ·obtain ⟨d, hd⟩ : ∃ d, c[1]? = some d := get_some (by omega)
   simp [hd, l1, dT_name]
   refine exK_of (i2, h2, c.modify 1 (fun d => (⟨#[80, 111, 115]⟩, d.2)), r, e) ⟨a2, small_mod (f := fun d => (⟨#[80, 111, 115]⟩, d.2)) (fun d h => (by decide : (⟨#[80, 111, 115]⟩ : ByteArray).size ≤ 100)) _ s1, s2, s3⟩ ?_
   simp
  refine ⟨fun h => ?_, fun h => ?_⟩
  ·obtain ⟨⟨i3, h3, y3⟩, ⟨a3, b3⟩, hC3⟩ := w171 bs [0, 5] i2 h2 hb a2 (by simp) (by simp)
   simp only at a3 b3 hC3
   unfold curT at hC3
   refine callW_ms [.own, .own] ?_
   simp
   refine callX_of hC3 (by simp) ?_
   obtain ⟨d, hd⟩ : ∃ d, e[0]? = some d := get_some (by omega)
   simp [hd, l3, dT_kind]
   refine exK_of (i3, h3, c, r, e.modify 0 (fun d => (d.1, y3))) ⟨a3, s1, s2, small_mod (f := fun d => (d.1, y3)) (fun d h => h) _ s3⟩ ?_
   simp
  refine ⟨fun h => ?_, fun h => ?_⟩
  ·obtain ⟨⟨i3, h3, y3⟩, ⟨a3, b3⟩, hC3⟩ := w172 bs [⟨#[]⟩, ⟨#[97, 98, 99, 100, 101, 102, 103, 104, 105, 106, 107, 108, 109]⟩, ⟨#[97, 49]⟩, ⟨#[108, 101, 116]⟩] i2 h2 hb a2 (by simp) (by simp)
   simp only at a3 b3 hC3
   unfold curT at hC3
   refine callW_ms [.own, .own] ?_
   simp
   refine callX_of hC3 (by simp) ?_
   obtain ⟨d, hd⟩ : ∃ d, r[0]? = some d := get_some (by omega)
   simp [hd, l2, dT_name]
   refine exK_of (i3, h3, c, r.modify 0 (fun d => (y3, d.2)), e) ⟨a3, s1, small_mod (fun d h => (by decide : ∀ s ∈ ([⟨#[]⟩, ⟨#[97, 98, 99, 100, 101, 102, 103, 104, 105, 106, 107, 108, 109]⟩, ⟨#[97, 49]⟩, ⟨#[108, 101, 116]⟩] : List ByteArray), s.size ≤ 100) _ b3) _ s2, s3⟩ ?_
   simp
  refine ⟨fun h => ?_, fun h => ?_⟩
  ·refine twp_for 8 (fun j s => ∃ (L : DcP), smallD L ∧ L.length = 5 + j ∧ s.t 0 = .pt [(1, 0)] 0 0 ∧ s.t 2 = .pt [(4, 0)] 0 0 ∧ s.t 3 = .pt [(5, 0)] 0 0 ∧ s.t 4 = .i .i64 j ∧ s.H = lk [(1, [.po true [.sl false 1 (bs.map uT), .i .i64 i2, .i .i64 h2]]), (4, [.po true [.sl true 2 [], .sl true 2 [], .sl true 2 []]]), (5, [.po true [.sl true 2 (L.map dT), .sl true 2 (r.map dT), .sl true 2 (e.map dT)]])]) [8, 72, 76, 77] (by simp) ?_ ?_
   ·refine ⟨c, s1, by omega, ?_⟩
    simp
   ·rintro j s hj ⟨L, hL, hLl, q0, q2, q3, q4, qH⟩
    rw [nf_of qH]
    simp [q0, q2, q3, q4]
    refine ⟨fun hlt => ?_, fun hge => ?_⟩
    ·have hw : IntKind.i64.wrap ((j : Int) + 1) = j + 1 := wrap_id (by omega) (by omega)
     simp [elemsOf, bytesT, q0, q2, q3, q4, hw]
     refine ⟨by rw [xs_size]; omega, by omega, by omega, L ++ [(⟨#[88]⟩ ++ ⟨#[UInt8.ofNat (IntKind.u8.wrap (IntKind.i64.wrap (97 + (j : Int)))).toNat]⟩, 1)], small_snoc hL (by omega) (xa_size _), by simp; omega, by simp⟩
    ·refine exK_of (i2, h2, L, r, e) ⟨a2, hL, s2, s3⟩ ?_
     simp [q0, q2, q3]
  ·obtain ⟨d, hd⟩ : ∃ d, e[1]? = some d := get_some (by omega)
   simp [hd, l3, dT_name]
   refine exK_of (i2, h2, c, r, e.modify 1 (fun d => (⟨#[87, 105, 110, 100]⟩, d.2))) ⟨a2, s1, s2, small_mod (f := fun d => (⟨#[87, 105, 110, 100]⟩, d.2)) (fun d h => (by decide : (⟨#[87, 105, 110, 100]⟩ : ByteArray).size ≤ 100)) _ s3⟩ ?_
   simp
 refine ⟨fun h => ?_, fun h => ?_⟩
 ·refine twp_for 7 (fun j s => ∃ (L : DcP), smallD L ∧ L.length = 5 + j ∧ s.t 0 = .pt [(1, 0)] 0 0 ∧ s.t 2 = .pt [(4, 0)] 0 0 ∧ s.t 3 = .pt [(5, 0)] 0 0 ∧ s.t 5 = .i .i64 j ∧ s.H = lk [(1, [.po true [.sl false 1 (bs.map uT), .i .i64 i1, .i .i64 h1]]), (4, [.po true [.sl true 2 [], .sl true 2 [], .sl true 2 []]]), (5, [.po true [.sl true 2 (L.map dT), .sl true 2 (r.map dT), .sl true 2 (e.map dT)]])]) [8, 90, 97, 98] (by simp) ?_ ?_
  ·refine ⟨c, s1, by omega, ?_⟩
   simp
  ·rintro j s hj ⟨L, hL, hLl, q0, q2, q3, q5, qH⟩
   rw [nf_of qH]
   simp [q0, q2, q3, q5]
   refine ⟨fun hlt => ?_, fun hge => ?_⟩
   ·have hw : IntKind.i64.wrap ((j : Int) + 1) = j + 1 := wrap_id (by omega) (by omega)
    simp [elemsOf, bytesT, q0, q2, q3, q5, hw]
    refine ⟨by rw [xs_size]; omega, by omega, by omega, L ++ [(⟨#[88]⟩ ++ ⟨#[UInt8.ofNat (IntKind.u8.wrap (IntKind.i64.wrap (97 + (j : Int)))).toNat]⟩, IntKind.i64.wrap (1 + (j : Int).tmod 4))], small_snoc hL (by omega) (xa_size _), by simp; omega, by simp⟩
   ·refine exK_of (i1, h1, L, r, e) ⟨a1, hL, s2, s3⟩ ?_
    simp [q0, q2, q3]
 ·refine exK_of (i1, h1, c, r, e) ⟨a1, s1, s2, s3⟩ ?_
  simp
end Go.Proofs.YtmedelmfkciblaaT


namespace Go.Proofs.YtmedelmfkciblaaT
set_option linter.unusedVariables false
set_option linter.unusedSimpArgs false
open Go
def c175 : TCode := (.seq (.ops [⟨(some 3), 5, .box 3 (.t 1), none, []⟩, ⟨(some 4), 6, .mv (.c (.sl true 5 [])), none, []⟩])
 (.seq (.ops [⟨(some 10), 12, .bslice 5 0 [(.i .i64 0), (.i .i64 0), (.i .i64 0), (.f 0), (.f 0)] [], none, []⟩, ⟨(some 5), 7, .mv (.t 10), none, []⟩])
 (.seq (.ops [⟨(some 11), 13, .mv (.t 0), none, []⟩, ⟨(some 12), 14, .call 183 [((.t 11), 3)], none, []⟩, ⟨(some 6), 8, .mv (.t 12), none, []⟩])
 (.seq (.seq (.ops [⟨(some 13), 15, .mv (.t 0), none, []⟩, ⟨(some 14), 16, .call 132 [((.t 13), 3), ((.c (.i .i64 2)), 0)], none, []⟩])
 (.cond (.t 14)
 (.ops [⟨(some 15), 17, .mv (.t 0), none, []⟩, ⟨(some 16), 18, .bslice 1 4 [(.i .i64 0)] [(0, (.c (.i .i64 3))), (1, (.c (.i .i64 7))), (2, (.c (.i .i64 1))), (3, (.c (.i .i64 5)))], none, []⟩, ⟨(some 17), 19, .call 171 [((.t 15), 3), ((.t 16), 0)], none, []⟩, ⟨(some 6), 8, .mv (.t 17), none, []⟩])
 .skip))
 (.seq (.seq (.ops [⟨(some 7), 9, .mv (.c (.i .i64 0)), none, []⟩])
 (.block 0 (.loop (.seq (.seq (.ops [⟨(some 18), 20, .mv (.t 7), none, []⟩, ⟨(some 19), 21, .faddr 0 1 (.t 3), none, []⟩, ⟨(some 20), 22, .load false 1 (.t 19), none, []⟩, ⟨(some 21), 23, .len false (.t 20), none, []⟩, ⟨(some 22), 24, .bin .lss (.t 18) (.t 21), none, []⟩, ⟨(some 23), 25, .mv (.t 22), none, []⟩, ⟨(some 24), 26, .mv (.t 7), (some (23, true)), []⟩, ⟨(some 25), 27, .bin .lss (.t 24) (.c (.i .i64 8)), (some (23, true)), []⟩, ⟨(some 26), 28, .pick (.t 23) (.t 25) (.c (.b false)), none, []⟩])
 (.cond (.t 26)
 .skip
 (.exit 0)))
 (.seq (.block 1 (.seq (.ops [⟨(some 29), 31, .mv (.t 6), none, []⟩, ⟨(some 30), 32, .mv (.t 7), none, []⟩, ⟨(some 31), 33, .toInt .u64 (.t 30), none, []⟩, ⟨(some 32), 34, .bin .shr (.t 29) (.t 31), none, []⟩, ⟨(some 33), 35, .bin .and (.t 32) (.c (.i .i64 1)), none, []⟩, ⟨(some 34), 36, .bin .eql (.t 33) (.c (.i .i64 1)), none, []⟩])
 (.cond (.t 34)
 (.ops [⟨(some 35), 37, .mv (.t 5), none, []⟩, ⟨(some 36), 38, .mv (.t 7), none, []⟩, ⟨(some 37), 39, .mv (.t 0), none, []⟩, ⟨(some 38), 40, .faddr 0 1 (.t 3), none, []⟩, ⟨(some 39), 41, .load false 1 (.t 38), none, []⟩, ⟨(some 40), 42, .mv (.t 7), none, []⟩, ⟨(some 41), 43, .iaddr 2 (.t 39) (.t 40), none, []⟩, ⟨(some 42), 44, .faddr 1 1 (.t 41), none, []⟩, ⟨(some 43), 45, .load false 1 (.t 42), none, []⟩, ⟨(some 44), 46, .call 173 [((.t 37), 3), ((.t 43), 0)], none, []⟩, ⟨(some 45), 47, .build [(.i .i64 0), (.i .i64 0), (.i .i64 0), (.f 0), (.f 0)] [(0, 1, (.t 36)), (1, 4, (.t 44))], none, []⟩, ⟨(some 46), 48, .bslice 5 1 [(.i .i64 0), (.i .i64 0), (.i .i64 0), (.f 0), (.f 0)] [(0, (.t 45))], none, []⟩, ⟨(some 47), 49, .app 5 40 (.t 35) (.t 46), none, []⟩, ⟨(some 5), 7, .mv (.t 47), none, []⟩])
 .skip)))
 (.ops [⟨(some 27), 29, .mv (.t 7), none, []⟩, ⟨(some 28), 30, .bin .add (.t 27) (.c (.i .i64 1)), none, []⟩, ⟨(some 7), 9, .mv (.t 28), none, []⟩]))))))
 (.seq (.seq (.ops [⟨(some 48), 50, .mv (.t 0), none, []⟩, ⟨(some 49), 51, .call 132 [((.t 48), 3), ((.c (.i .i64 3)), 0)], none, []⟩, ⟨(some 50), 52, .mv (.t 49), none, []⟩, ⟨(some 51), 53, .mv (.t 5), (some (50, true)), []⟩, ⟨(some 52), 54, .len false (.t 51), (some (50, true)), []⟩, ⟨(some 53), 55, .bin .gtr (.t 52) (.c (.i .i64 1)), (some (50, true)), []⟩, ⟨(some 54), 56, .pick (.t 50) (.t 53) (.c (.b false)), none, []⟩])
 (.cond (.t 54)
 (.seq (.draw [⟨(some 55), 57, .mv (.t 5), none, []⟩, ⟨(some 56), 58, .iaddr 5 (.t 55) (.c (.i .i64 0)), none, []⟩, ⟨(some 57), 59, .load true 5 (.t 56), none, []⟩, ⟨(some 58), 60, .mv (.t 5), none, []⟩, ⟨(some 59), 61, .iaddr 5 (.t 58) (.c (.i .i64 1)), none, []⟩, ⟨(some 60), 62, .load true 5 (.t 59), none, []⟩, ⟨(some 8), 10, .box 5 (.c (.ag [(.i .i64 0), (.i .i64 0), (.i .i64 0), (.f 0), (.f 0)])), none, [0, 1, 2, 3, 4, 5]⟩, ⟨(some 9), 11, .box 5 (.c (.ag [(.i .i64 0), (.i .i64 0), (.i .i64 0), (.f 0), (.f 0)])), none, [0, 1, 2, 3, 4, 5, 6]⟩, ⟨none, 1011008, .store 5 (.t 8) (.t 57), none, [1000000, 3, 4, 5]⟩, ⟨none, 1011009, .store 5 (.t 9) (.t 60), none, []⟩])
 (.seq (.ops [⟨(some 61), 63, .mv (.t 5), none, []⟩, ⟨(some 62), 64, .load true 5 (.t 9), none, []⟩, ⟨(some 63), 65, .iaddr 5 (.t 61) (.c (.i .i64 0)), none, []⟩, ⟨none, 1012003, .store 5 (.t 63) (.t 62), none, []⟩])
 (.ops [⟨(some 64), 66, .mv (.t 5), none, []⟩, ⟨(some 65), 67, .load true 5 (.t 8), none, []⟩, ⟨(some 66), 68, .iaddr 5 (.t 64) (.c (.i .i64 1)), none, []⟩, ⟨none, 1013003, .store 5 (.t 66) (.t 65), none, []⟩])))
 .skip))
 (.seq (.ops [⟨(some 67), 69, .mv (.t 5), none, []⟩, ⟨(some 4), 6, .mv (.t 67), none, []⟩])
 .ret)))))))
theorem k175 : compCode Try.prog Try.f175.ntmps Try.f175.body.get! = some c175 := by kernel_rfl
theorem r175 : resTmps Try.prog Try.f175.results.toList = some [.tmp 4] := by kernel_rfl
def c219 : TCode := (.seq (.ops [⟨(some 3), 5, .box 2 (.t 1), none, []⟩, ⟨(some 4), 6, .box 2 (.c (.ag [(.i .i64 0), (.i .i64 0)])), none, []⟩])
 (.seq (.ops [⟨(some 7), 9, .mv (.t 0), none, []⟩, ⟨(some 8), 10, .faddr 0 1 (.t 3), none, []⟩, ⟨(some 9), 11, .load false 1 (.t 8), none, []⟩, ⟨(some 10), 12, .len false (.t 9), none, []⟩, ⟨(some 11), 13, .bin .add (.t 10) (.c (.i .i64 2)), none, []⟩, ⟨(some 12), 14, .call 142 [((.t 7), 3), ((.t 11), 0)], none, []⟩, ⟨(some 13), 15, .bin .sub (.t 12) (.c (.i .i64 1)), none, []⟩, ⟨(some 5), 7, .mv (.t 13), none, []⟩])
 (.seq (.ops [⟨(some 14), 16, .mv (.t 5), none, []⟩, ⟨(some 15), 17, .build [(.i .i64 0), (.i .i64 0)] [(0, 1, (.t 14))], none, []⟩, ⟨(some 6), 8, .box 2 (.c (.ag [(.i .i64 0), (.i .i64 0)])), none, []⟩, ⟨none, 1002003, .store 2 (.t 6) (.t 15), none, []⟩])
 (.seq (.seq (.ops [⟨(some 16), 18, .mv (.t 5), none, []⟩, ⟨(some 17), 19, .faddr 0 1 (.t 3), none, []⟩, ⟨(some 18), 20, .load false 1 (.t 17), none, []⟩, ⟨(some 19), 21, .len false (.t 18), none, []⟩, ⟨(some 20), 22, .bin .sub (.t 19) (.c (.i .i64 1)), none, []⟩, ⟨(some 21), 23, .call 87 [((.t 16), 0), ((.c (.i .i64 0)), 0), ((.t 20), 0)], none, []⟩])
 (.cond (.t 21)
 (.ops [⟨(some 22), 24, .faddr 0 1 (.t 3), none, []⟩, ⟨(some 23), 25, .load false 1 (.t 22), none, []⟩, ⟨(some 24), 26, .mv (.t 5), none, []⟩, ⟨(some 25), 27, .iaddr 1 (.t 23) (.t 24), none, []⟩, ⟨(some 26), 28, .load false 1 (.t 25), none, []⟩, ⟨(some 27), 29, .faddr 1 1 (.t 6), none, []⟩, ⟨none, 1004006, .store 1 (.t 27) (.t 26), none, []⟩])
 .skip))
 (.seq (.seq (.ops [⟨(some 28), 30, .mv (.t 0), none, []⟩, ⟨(some 29), 31, .call 132 [((.t 28), 3), ((.c (.i .i64 7)), 0)], none, []⟩])
 (.cond (.t 29)
 (.ops [⟨(some 30), 32, .faddr 1 1 (.t 6), none, []⟩, ⟨(some 31), 33, .load false 1 (.t 30), none, []⟩, ⟨(some 32), 34, .bin .sub (.t 31) (.c (.i .i64 1)), none, []⟩, ⟨(some 33), 35, .faddr 1 1 (.t 6), none, []⟩, ⟨none, 1006004, .store 1 (.t 33) (.t 32), none, []⟩])
 .skip))
 (.seq (.ops [⟨(some 34), 36, .load true 2 (.t 6), none, []⟩, ⟨none, 1007001, .store 2 (.t 4) (.t 34), none, []⟩])
 .ret))))))
theorem k219 : compCode Try.prog Try.f219.ntmps Try.f219.body.get! = some c219 := by kernel_rfl
theorem r219 : resTmps Try.prog Try.f219.results.toList = some [.cell 4 true 2] := by kernel_rfl
def c178 : TCode := (.seq (.ops [⟨(some 3), 5, .box 4 (.t 1), none, []⟩, ⟨(some 4), 6, .box 2 (.c (.ag [(.i .i64 0), (.i .i64 0)])), none, []⟩])
 (.seq (.ops [⟨(some 6), 8, .faddr 0 2 (.t 3), none, []⟩, ⟨(some 7), 9, .load true 2 (.t 6), none, []⟩, ⟨(some 8), 10, .call 218 [((.t 7), 0)], none, []⟩, ⟨(some 5), 7, .mv (.t 8), none, []⟩])
 (.seq (.seq (.ops [⟨(some 9), 11, .mv (.t 5), none, []⟩, ⟨(some 10), 12, .len false (.t 9), none, []⟩, ⟨(some 11), 13, .bin .eql (.t 10) (.c (.i .i64 0)), none, []⟩, ⟨(some 12), 14, .mv (.t 11), none, []⟩, ⟨(some 13), 15, .mv (.t 0), (some (12, false)), []⟩, ⟨(some 14), 16, .call 132 [((.t 13), 3), ((.c (.i .i64 9)), 0)], (some (12, false)), []⟩, ⟨(some 15), 17, .pick (.t 12) (.c (.b true)) (.t 14), none, []⟩])
 (.cond (.t 15)
 (.seq (.ops [⟨(some 16), 18, .mv (.t 0), none, []⟩, ⟨(some 17), 19, .faddr 0 2 (.t 3), none, []⟩, ⟨(some 18), 20, .load true 2 (.t 17), none, []⟩, ⟨(some 19), 21, .call 219 [((.t 16), 3), ((.t 18), 0)], none, []⟩, ⟨none, 1003004, .store 2 (.t 4) (.t 19), none, []⟩])
 .ret)
 .skip))
 (.seq (.ops [⟨(some 20), 22, .mv (.t 5), none, []⟩, ⟨(some 21), 23, .mv (.t 0), none, []⟩, ⟨(some 22), 24, .mv (.t 5), none, []⟩, ⟨(some 23), 25, .len false (.t 22), none, []⟩, ⟨(some 24), 26, .call 142 [((.t 21), 3), ((.t 23), 0)], none, []⟩, ⟨(some 25), 27, .iaddr 2 (.t 20) (.t 24), none, []⟩, ⟨(some 26), 28, .load true 2 (.t 25), none, []⟩, ⟨none, 1004007, .store 2 (.t 4) (.t 26), none, []⟩])
 .ret))))
theorem k178 : compCode Try.prog Try.f178.ntmps Try.f178.body.get! = some c178 := by kernel_rfl
theorem r178 : resTmps Try.prog Try.f178.results.toList = some [.cell 4 true 2] := by kernel_rfl
def c184 : TCode := (.seq (.ops [⟨(some 3), 5, .box 3 (.t 1), none, []⟩, ⟨(some 4), 6, .mv (.c (.i .i64 0)), none, []⟩, ⟨(some 5), 7, .box 4 (.c (.ag [(.i .i64 0), (.i .i64 0), (.f 0), (.f 0)])), none, []⟩])
 (.seq (.ops [⟨(some 8), 10, .mv (.t 0), none, []⟩, ⟨(some 9), 11, .faddr 0 1 (.t 3), none, []⟩, ⟨(some 10), 12, .load false 1 (.t 9), none, []⟩, ⟨(some 11), 13, .len false (.t 10), none, []⟩, ⟨(some 12), 14, .bin .add (.t 11) (.c (.i .i64 1)), none, []⟩, ⟨(some 13), 15, .call 142 [((.t 8), 3), ((.t 12), 0)], none, []⟩, ⟨(some 6), 8, .mv (.t 13), none, []⟩])
 (.seq (.seq (.ops [⟨(some 14), 16, .mv (.t 6), none, []⟩, ⟨(some 15), 17, .faddr 0 1 (.t 3), none, []⟩, ⟨(some 16), 18, .load false 1 (.t 15), none, []⟩, ⟨(some 17), 19, .len false (.t 16), none, []⟩, ⟨(some 18), 20, .bin .eql (.t 14) (.t 17), none, []⟩, ⟨(some 19), 21, .mv (.t 18), none, []⟩, ⟨(some 20), 22, .mv (.t 0), (some (19, true)), []⟩, ⟨(some 21), 23, .call 132 [((.t 20), 3), ((.c (.i .i64 2)), 0)], (some (19, true)), []⟩, ⟨(some 22), 24, .pick (.t 19) (.t 21) (.c (.b false)), none, []⟩])
 (.cond (.t 22)
 (.ops [⟨(some 6), 8, .mv (.c (.i .i64 (-1))), none, []⟩])
 .skip))
 (.seq (.ops [⟨(some 23), 25, .mv (.t 0), none, []⟩, ⟨(some 24), 26, .call 182 [((.t 23), 3)], none, []⟩, ⟨(some 7), 9, .box 4 (.c (.ag [(.i .i64 0), (.i .i64 0), (.f 0), (.f 0)])), none, []⟩, ⟨none, 1004003, .store 4 (.t 7) (.t 24), none, []⟩])
 (.seq (.seq (.ops [⟨(some 25), 27, .mv (.t 6), none, []⟩, ⟨(some 26), 28, .faddr 0 1 (.t 3), none, []⟩, ⟨(some 27), 29, .load false 1 (.t 26), none, []⟩, ⟨(some 28), 30, .len false (.t 27), none, []⟩, ⟨(some 29), 31, .bin .sub (.t 28) (.c (.i .i64 1)), none, []⟩, ⟨(some 30), 32, .call 87 [((.t 25), 0), ((.c (.i .i64 0)), 0), ((.t 29), 0)], none, []⟩, ⟨(some 31), 33, .mv (.t 30), none, []⟩, ⟨(some 32), 34, .mv (.t 0), (some (31, true)), []⟩, ⟨(some 33), 35, .call 132 [((.t 32), 3), ((.c (.i .i64 8)), 0)], (some (31, true)), []⟩, ⟨(some 34), 36, .un .not (.t 33), (some (31, true)), []⟩, ⟨(some 35), 37, .pick (.t 31) (.t 34) (.c (.b false)), none, []⟩, ⟨(some 36), 38, .mv (.t 35), none, []⟩, ⟨(some 37), 39, .faddr 0 1 (.t 3), (some (36, true)), []⟩, ⟨(some 38), 40, .load false 1 (.t 37), (some (36, true)), []⟩, ⟨(some 39), 41, .mv (.t 6), (some (36, true)), []⟩, ⟨(some 40), 42, .iaddr 2 (.t 38) (.t 39), (some (36, true)), []⟩, ⟨(some 41), 43, .faddr 1 1 (.t 40), (some (36, true)), []⟩, ⟨(some 42), 44, .load false 1 (.t 41), (some (36, true)), []⟩, ⟨(some 43), 45, .call 87 [((.t 42), 0), ((.c (.i .i64 1)), 0), ((.c (.i .i64 4)), 0)], (some (36, true)), []⟩, ⟨(some 44), 46, .pick (.t 36) (.t 43) (.c (.b false)), none, []⟩])
 (.cond (.t 44)
 (.ops [⟨(some 45), 47, .mv (.t 0), none, []⟩, ⟨(some 46), 48, .faddr 0 1 (.t 3), none, []⟩, ⟨(some 47), 49, .load false 1 (.t 46), none, []⟩, ⟨(some 48), 50, .mv (.t 6), none, []⟩, ⟨(some 49), 51, .iaddr 2 (.t 47) (.t 48), none, []⟩, ⟨(some 50), 52, .faddr 1 1 (.t 49), none, []⟩, ⟨(some 51), 53, .load false 1 (.t 50), none, []⟩, ⟨(some 52), 54, .call 173 [((.t 45), 3), ((.t 51), 0)], none, []⟩, ⟨none, 1006008, .store 4 (.t 7) (.t 52), none, []⟩])
 .skip))
 (.seq (.draw [⟨(some 53), 55, .mv (.t 6), none, []⟩, ⟨(some 54), 56, .load true 4 (.t 7), none, []⟩, ⟨(some 4), 6, .mv (.t 53), none, []⟩, ⟨none, 1007003, .store 4 (.t 5) (.t 54), none, []⟩])
 .ret))))))
theorem k184 : compCode Try.prog Try.f184.ntmps Try.f184.body.get! = some c184 := by kernel_rfl
theorem r184 : resTmps Try.prog Try.f184.results.toList = some [.tmp 4, .cell 5 true 4] := by kernel_rfl
theorem wrap_u64_nn (n : Int) : 0 ≤ IntKind.u64.wrap n := by
 simp [IntKind.wrap, IntKind.bits, IntKind.signed]
 try omega
theorem mod_clM {l : List CellP} {k : Nat} {y : CellP} (z : CellP) (hy : l[k]? = some y) :
  (((((l.map clT).modify k fun e => e.modify 0 fun x => TV.i .i64 z.1).modify k fun e => e.modify 1 fun x => TV.i .i64 z.2.1).modify k fun e => e.modify 2 fun x => TV.i .i64 z.2.2.1).modify k fun e => e.modify 3 fun x => TV.f z.2.2.2.1).modify k (fun e => e.modify 4 fun x => TV.f z.2.2.2.2) = (l.set k z).map clT := by
 rw [mod_mod, mod_mod, mod_mod, mod_mod]
 exact map_mod hy rfl
set_option maxHeartbeats 2000000 in
set_option maxRecDepth 100000 in
theorem w175 (bs : List Int) (i0 : Nat) (h0 : Int) (c r d : DcP) (hb : bs.length ≤ 2^40) (hi0 : i0 ≤ bs.length) (hc : c.length ≤ 20) : ∃ x : Nat × Int × List CellP, (x.1 ≤ bs.length ∧ x.2.2.length ≤ 8 ∧ vOkL x.2.2) ∧ Contract Try.prog true 175 [.own, .own] [curT bs i0 h0, regO c r d] [.sl true 5 (x.2.2.map clT)] [some (curT bs x.1 x.2.1), some (.sl true 2 (c.map dT)), some (.sl true 2 (r.map dT)), some (.sl true 2 (d.map dT))] := by
 refine mk_contractE [some [(1, 0)], some [(5, 0), (0, 0)], some [(5, 0), (0, 1)], some [(5, 0), (0, 2)]] Try.func175 (c := Try.f175.body.get!) (by kernel_rfl) k175 r175 (of_decide_eq_true rfl) ?_
 unfold c175; unfold curT regO; simp
 obtain ⟨⟨i1, h1, y1⟩, ⟨a1, b1, c1⟩, hC1⟩ := w183 bs i0 h0 hb hi0
 simp only at a1 b1 c1 hC1
 unfold curT at hC1
 refine callW_ms [.own] ?_
 simp
 refine callX_of hC1 (by simp) ?_
 simp
 obtain ⟨⟨i2, h2, y2⟩, a2, hC2⟩ := w132 bs i1 h1 2 hb a1
 simp only at a2 hC2
 unfold curT at hC2
 refine callW_ms [.own, .ro] ?_
 simp
 refine callX_of hC2 (by simp) ?_
 cases y2 with
 | false =>
  simp
  refine twp_forR c.length (fun j s => ∃ (i : Nat), i ≤ bs.length ∧ ∃ (h : Int) (Q : List CellP), (Q.length ≤ j ∧ Q.length ≤ 8 ∧ j ≤ 8 ∧ vOkL Q) ∧ s.t 0 = .pt [(1, 0)] 0 0 ∧ s.t 3 = .pt [(5, 0)] 0 0 ∧ s.t 5 = .rf [(49, 0)] 0 Q.length ∧ s.t 6 = .i .i64 y1 ∧ s.t 7 = .i .i64 j ∧ s.org [(5, 0), (0, 0)] = some 1 ∧ s.org [(5, 0), (0, 1)] = some 2 ∧ s.org [(5, 0), (0, 2)] = some 3 ∧ s.H = lk [(1, [.po true [.sl false 1 (bs.map uT), .i .i64 i, .i .i64 h], .junk, .junk, .junk]), (5, [.po true [.sl true 2 (c.map dT), .sl true 2 (r.map dT), .sl true 2 (d.map dT)]]), (49, [.sl true 5 (Q.map clT)])]) [18, 48] [(12, 49)] (by simp) (by simp) ?_ ?_
  ·refine ⟨i2, a2, h2, [], ⟨by simp, by simp, by omega, vOkL.nil⟩, ?_⟩
   simp [renO]
  ·rintro j s hj ⟨i, hi, h, Q, ⟨hQj, hQ8, hj8, hQv⟩, q0, q3, q5, q6, q7, o1, o2, o3, qH⟩
   rw [nf_of qH]
   have hw : IntKind.i64.wrap ((j : Int) + 1) = j + 1 := wrap_id (by omega) (by omega)
   cases hb9 : decide (j < c.length)
   ·simp [q0, q3, q5, q6, q7, o1, o2, o3, hb9]
    obtain ⟨⟨i5, h5, y5⟩, a5, hC5⟩ := w132 bs i h 3 hb hi
    simp only at a5 hC5
    unfold curT at hC5
    refine callW_ms [.own, .ro] ?_
    simp [q0, q3, q5, q6, q7, o1, o2, o3]
    refine callX_of hC5 (by simp) ?_
    cases y5 with
    | false =>
     simp [q0, q3, q5, q6, q7, o1, o2, o3]
     refine exK_of (i5, h5, Q) ⟨a5, hQ8, hQv⟩ ?_
     simp [o1, o2, o3]
    | true =>
     simp [q0, q3, q5, q6, q7, o1, o2, o3]
     refine ⟨fun hgt => ?_, fun hle => ?_⟩
     rotate_left
     ·refine exK_of (i5, h5, Q) ⟨a5, hQ8, hQv⟩ ?_
      simp [o1, o2, o3]
     ·obtain ⟨x, hx⟩ : ∃ x, Q[0]? = some x := get_some (by omega)
      obtain ⟨y, hy⟩ : ∃ y, Q[1]? = some y := get_some (by omega)
      refine ⟨by omega, ?_⟩
      simp [q0, q3, q5, q6, q7, o1, o2, o3, hx, hy]
      refine ⟨by omega, by omega, by omega, ?_⟩
      rw [mod_clM y hx, mod_clM x (y := y) (by rw [List.getElem?_set_ne (by omega)]; exact hy)]
      refine exK_of (i5, h5, (Q.set 0 y).set 1 x) ⟨a5, by simp only [List.length_set]; exact hQ8, (hQv.set (hQv y (List.mem_of_getElem? hy))).set (hQv x (List.mem_of_getElem? hx))⟩ ?_
      simp [o1, o2, o3]
   ·have hlt := of_decide_eq_true hb9
    obtain ⟨dc, hdc⟩ := get_some hlt
    cases hb8 : decide ((j : Int) < 8)
    ·have h8 := of_decide_eq_false hb8
     simp [q0, q3, q5, q6, q7, o1, o2, o3, hb9, hb8]
     obtain ⟨⟨i5, h5, y5⟩, a5, hC5⟩ := w132 bs i h 3 hb hi
     simp only at a5 hC5
     unfold curT at hC5
     refine callW_ms [.own, .ro] ?_
     simp [q0, q3, q5, q6, q7, o1, o2, o3]
     refine callX_of hC5 (by simp) ?_
     cases y5 with
     | false =>
      simp [q0, q3, q5, q6, q7, o1, o2, o3]
      refine exK_of (i5, h5, Q) ⟨a5, hQ8, hQv⟩ ?_
      simp [o1, o2, o3]
     | true =>
      simp [q0, q3, q5, q6, q7, o1, o2, o3]
      refine ⟨fun hgt => ?_, fun hle => ?_⟩
      rotate_left
      ·refine exK_of (i5, h5, Q) ⟨a5, hQ8, hQv⟩ ?_
       simp [o1, o2, o3]
      ·obtain ⟨x, hx⟩ : ∃ x, Q[0]? = some x := get_some (by omega)
       obtain ⟨y, hy⟩ : ∃ y, Q[1]? = some y := get_some (by omega)
       refine ⟨by omega, ?_⟩
       simp [q0, q3, q5, q6, q7, o1, o2, o3, hx, hy]
       refine ⟨by omega, by omega, by omega, ?_⟩
       rw [mod_clM y hx, mod_clM x (y := y) (by rw [List.getElem?_set_ne (by omega)]; exact hy)]
       refine exK_of (i5, h5, (Q.set 0 y).set 1 x) ⟨a5, by simp only [List.length_set]; exact hQ8, (hQv.set (hQv y (List.mem_of_getElem? hy))).set (hQv x (List.mem_of_getElem? hx))⟩ ?_
       simp [o1, o2, o3]
    ·have h8 := of_decide_eq_true hb8
     have hu0 : 0 ≤ IntKind.u64.wrap (j : Int) := wrap_u64_nn _
     simp [q0, q3, q5, q6, q7, o1, o2, o3, hb9, hb8]
     refine ⟨hu0, fun hb1 => ?_, fun hb1 => ?_⟩
     ·simp [q0, q3, q5, q6, q7, o1, o2, o3, hdc]
      refine ⟨hlt, ?_⟩
      obtain ⟨⟨i4, h4, v4⟩, ⟨a4, b4, c4⟩, hC4⟩ := w173 bs i h dc.2 hb hi
      simp only at a4 b4 hC4
      unfold curT valV at hC4
      refine callW_ms [.own, .ro] ?_
      simp [q0, q3, q5, q6, q7, o1, o2, o3, hdc]
      refine callX_of hC4 (by simp) ?_
      simp [q0, q3, q5, q6, q7, o1, o2, o3, hdc, hw, forK]
      refine ⟨by omega, hlt, i4, a4, h4, Q ++ [((j : Int), v4)], ⟨by simp; omega, by simp; omega, by omega, hQv.snoc b4⟩, ?_⟩
      simp
     ·simp [q0, q3, q5, q6, q7, o1, o2, o3, hw, forK]
      refine ⟨hlt, i, hi, h, Q, ⟨by omega, hQ8, by omega, hQv⟩, ?_⟩
      simp [q0, q3, q5, q6, q7, o1, o2, o3, hw]
 | true =>
  simp
  obtain ⟨⟨i3, h3, y3⟩, ⟨a3, b3⟩, hC3⟩ := w171 bs [3, 7, 1, 5] i2 h2 hb a2 (by simp) (by simp)
  simp only at a3 b3 hC3
  unfold curT at hC3
  refine callW_ms [.own, .own] ?_
  simp
  refine callX_of hC3 (by simp) ?_
  simp
  refine twp_forR c.length (fun j s => ∃ (i : Nat), i ≤ bs.length ∧ ∃ (h : Int) (Q : List CellP), (Q.length ≤ j ∧ Q.length ≤ 8 ∧ j ≤ 8 ∧ vOkL Q) ∧ s.t 0 = .pt [(1, 0)] 0 0 ∧ s.t 3 = .pt [(5, 0)] 0 0 ∧ s.t 5 = .rf [(49, 0)] 0 Q.length ∧ s.t 6 = .i .i64 y3 ∧ s.t 7 = .i .i64 j ∧ s.org [(5, 0), (0, 0)] = some 1 ∧ s.org [(5, 0), (0, 1)] = some 2 ∧ s.org [(5, 0), (0, 2)] = some 3 ∧ s.H = lk [(1, [.po true [.sl false 1 (bs.map uT), .i .i64 i, .i .i64 h], .junk, .junk, .junk]), (5, [.po true [.sl true 2 (c.map dT), .sl true 2 (r.map dT), .sl true 2 (d.map dT)]]), (49, [.sl true 5 (Q.map clT)])]) [18, 48] [(12, 49)] (by simp) (by simp) ?_ ?_
  ·refine ⟨i3, a3, h3, [], ⟨by simp, by simp, by omega, vOkL.nil⟩, ?_⟩
   simp [renO]
  ·rintro j s hj ⟨i, hi, h, Q, ⟨hQj, hQ8, hj8, hQv⟩, q0, q3, q5, q6, q7, o1, o2, o3, qH⟩
   rw [nf_of qH]
   have hw : IntKind.i64.wrap ((j : Int) + 1) = j + 1 := wrap_id (by omega) (by omega)
   cases hb9 : decide (j < c.length)
   ·simp [q0, q3, q5, q6, q7, o1, o2, o3, hb9]
    obtain ⟨⟨i5, h5, y5⟩, a5, hC5⟩ := w132 bs i h 3 hb hi
    simp only at a5 hC5
    unfold curT at hC5
    refine callW_ms [.own, .ro] ?_
    simp [q0, q3, q5, q6, q7, o1, o2, o3]
    refine callX_of hC5 (by simp) ?_
    cases y5 with
    | false =>
     simp [q0, q3, q5, q6, q7, o1, o2, o3]
     refine exK_of (i5, h5, Q) ⟨a5, hQ8, hQv⟩ ?_
     simp [o1, o2, o3]
    | true =>
     simp [q0, q3, q5, q6, q7, o1, o2, o3]
     refine ⟨fun hgt => ?_, fun hle => ?_⟩
     rotate_left
     ·refine exK_of (i5, h5, Q) ⟨a5, hQ8, hQv⟩ ?_
      simp [o1, o2, o3]
     ·obtain ⟨x, hx⟩ : ∃ x, Q[0]? = some x := get_some (by omega)
      obtain ⟨y, hy⟩ : ∃ y, Q[1]? = some y := get_some (by omega)
      refine ⟨by omega, ?_⟩
      simp [q0, q3, q5, q6, q7, o1, o2, o3, hx, hy]
      refine ⟨by omega, by omega, by omega, ?_⟩
      rw [mod_clM y hx, mod_clM x (y := y) (by rw [List.getElem?_set_ne (by omega)]; exact hy)]
      refine exK_of (i5, h5, (Q.set 0 y).set 1 x) ⟨a5, by simp only [List.length_set]; exact hQ8, (hQv.set (hQv y (List.mem_of_getElem? hy))).set (hQv x (List.mem_of_getElem? hx))⟩ ?_
      simp [o1, o2, o3]
   ·have hlt := of_decide_eq_true hb9
    obtain ⟨dc, hdc⟩ := get_some hlt
    cases hb8 : decide ((j : Int) < 8)
    ·have h8 := of_decide_eq_false hb8
     simp [q0, q3, q5, q6, q7, o1, o2, o3, hb9, hb8]
     obtain ⟨⟨i5, h5, y5⟩, a5, hC5⟩ := w132 bs i h 3 hb hi
     simp only at a5 hC5
     unfold curT at hC5
     refine callW_ms [.own, .ro] ?_
     simp [q0, q3, q5, q6, q7, o1, o2, o3]
     refine callX_of hC5 (by simp) ?_
     cases y5 with
     | false =>
      simp [q0, q3, q5, q6, q7, o1, o2, o3]
      refine exK_of (i5, h5, Q) ⟨a5, hQ8, hQv⟩ ?_
      simp [o1, o2, o3]
     | true =>
      simp [q0, q3, q5, q6, q7, o1, o2, o3]
      refine ⟨fun hgt => ?_, fun hle => ?_⟩
      rotate_left
      ·refine exK_of (i5, h5, Q) ⟨a5, hQ8, hQv⟩ ?_
       simp [o1, o2, o3]
      ·obtain ⟨x, hx⟩ : ∃ x, Q[0]? = some x := get_some (by omega)
       obtain ⟨y, hy⟩ : ∃ y, Q[1]? = some y := get_some (by omega)
       refine ⟨by omega, ?_⟩
       simp [q0, q3, q5, q6, q7, o1, o2, o3, hx, hy]
       refine ⟨by omega, by omega, by omega, ?_⟩
       rw [mod_clM y hx, mod_clM x (y := y) (by rw [List.getElem?_set_ne (by omega)]; exact hy)]
       refine exK_of (i5, h5, (Q.set 0 y).set 1 x) ⟨a5, by simp only [List.length_set]; exact hQ8, (hQv.set (hQv y (List.mem_of_getElem? hy))).set (hQv x (List.mem_of_getElem? hx))⟩ ?_
       simp [o1, o2, o3]
    ·have h8 := of_decide_eq_true hb8
     have hu0 : 0 ≤ IntKind.u64.wrap (j : Int) := wrap_u64_nn _
     simp [q0, q3, q5, q6, q7, o1, o2, o3, hb9, hb8]
     refine ⟨hu0, fun hb1 => ?_, fun hb1 => ?_⟩
     ·simp [q0, q3, q5, q6, q7, o1, o2, o3, hdc]
      refine ⟨hlt, ?_⟩
      obtain ⟨⟨i4, h4, v4⟩, ⟨a4, b4, c4⟩, hC4⟩ := w173 bs i h dc.2 hb hi
      simp only at a4 b4 hC4
      unfold curT valV at hC4
      refine callW_ms [.own, .ro] ?_
      simp [q0, q3, q5, q6, q7, o1, o2, o3, hdc]
      refine callX_of hC4 (by simp) ?_
      simp [q0, q3, q5, q6, q7, o1, o2, o3, hdc, hw, forK]
      refine ⟨by omega, hlt, i4, a4, h4, Q ++ [((j : Int), v4)], ⟨by simp; omega, by simp; omega, by omega, hQv.snoc b4⟩, ?_⟩
      simp
     ·simp [q0, q3, q5, q6, q7, o1, o2, o3, hw, forK]
      refine ⟨hlt, i, hi, h, Q, ⟨by omega, hQ8, by omega, hQv⟩, ?_⟩
      simp [q0, q3, q5, q6, q7, o1, o2, o3, hw]
set_option maxRecDepth 100000 in
theorem w219 (bs : List Int) (i0 : Nat) (h0 : Int) (g f : List Int) (hb : bs.length ≤ 2^40) (hi0 : i0 ≤ bs.length) (hg : g.length ≤ 2^36) : ∃ x : Nat × Int × Int × Int, (x.1 ≤ bs.length) ∧ Contract Try.prog true 219 [.own, .own] [curT bs i0 h0, entsO g f] [.ag (eT x.2.2)] [some (curT bs x.1 x.2.1), some (.sl true 1 (g.map iT)), some (.sl true 1 (f.map iT))] := by
 refine mk_contractE [some [(1, 0)], some [(5, 0), (0, 0)], some [(5, 0), (0, 1)]] Try.func219 (c := Try.f219.body.get!) (by kernel_rfl) k219 r219 (of_decide_eq_true rfl) ?_
 unfold c219; unfold curT entsO; simp
 have hw : IntKind.i64.wrap ((g.length : Int) + 2) = g.length + 2 := wrap_id (by omega) (by omega)
 have hw1 : IntKind.i64.wrap ((g.length : Int) - 1) = g.length - 1 := wrap_id (by omega) (by omega)
 simp [hw]
 obtain ⟨⟨i1, h1, y1⟩, ⟨a1, b1, c1⟩, hC1⟩ := w142 bs i0 h0 ((g.length : Int) + 2) hb hi0
 simp only at a1 b1 c1 hC1
 unfold curT at hC1
 refine callW_ms [.own, .ro] ?_
 simp
 refine callX_of hC1 (by simp) ?_
 simp
 have c2 := c1 (by omega)
 have hw2 : IntKind.i64.wrap (y1 - 1) = y1 - 1 := wrap_id (by omega) (by omega)
 simp [hw1, hw2]
 by_cases hin : 0 ≤ y1 - 1 ∧ y1 - 1 ≤ (g.length : Int) - 1
 ·obtain ⟨z, hz⟩ : ∃ z, g[y1.toNat - 1]? = some z := get_some (by omega)
  refine callW_ms [.ro, .ro, .ro] ?_
  simp
  refine callX_of ((w87 (y1 - 1) 0 ((g.length : Int) - 1)).t hin) (by simp) ?_
  simp [hz]
  refine ⟨by omega, by omega, ?_⟩
  obtain ⟨⟨i2, h2, y2⟩, a2, hC2⟩ := w132 bs i1 h1 7 hb a1
  simp only at a2 hC2
  unfold curT at hC2
  refine callW_ms [.own, .ro] ?_
  simp
  refine callX_of hC2 (by simp) ?_
  cases y2 with
  | false =>
   simp
   refine exK_of (i2, h2, y1 - 1, z) a2 ?_
   simp
  | true =>
   simp
   refine exK_of (i2, h2, y1 - 1, IntKind.i64.wrap (z - 1)) a2 ?_
   simp
 ·refine callW_ms [.ro, .ro, .ro] ?_
  simp
  refine callX_of ((w87 (y1 - 1) 0 ((g.length : Int) - 1)).f hin) (by simp) ?_
  simp
  obtain ⟨⟨i2, h2, y2⟩, a2, hC2⟩ := w132 bs i1 h1 7 hb a1
  simp only at a2 hC2
  unfold curT at hC2
  refine callW_ms [.own, .ro] ?_
  simp
  refine callX_of hC2 (by simp) ?_
  cases y2 with
  | false =>
   simp
   refine exK_of (i2, h2, y1 - 1, 0) a2 ?_
   simp
  | true =>
   simp
   refine exK_of (i2, h2, y1 - 1, IntKind.i64.wrap (0 - 1)) a2 ?_
   simp
set_option maxRecDepth 100000 in
theorem w178 (bs : List Int) (i0 : Nat) (h0 : Int) (g f : List Int) (ts : List TableP) (rs : List ValP) (hb : bs.length ≤ 2^40) (hi0 : i0 ≤ bs.length) (hg : g.length ≤ 2^36) (hf : f.length ≤ 2^36) : ∃ x : Nat × Int × Int × Int, (x.1 ≤ bs.length) ∧ Contract Try.prog true 178 [.own, .own] [curT bs i0 h0, worldO g f ts rs] [.ag (eT x.2.2)] [some (curT bs x.1 x.2.1), some (.sl true 1 (g.map iT)), some (.sl true 1 (f.map iT)), some (.sl true 3 (ts.map tbO)), some (.sl true 4 (rs.map vT))] := by
 refine mk_contractE [some [(1, 0)], some [(5, 0), (0, 0)], some [(5, 0), (0, 1)], some [(5, 0), (0, 2)], some [(5, 0), (0, 3)]] Try.func178 (c := Try.f178.body.get!) (by kernel_rfl) k178 r178 (of_decide_eq_true rfl) ?_
 have hL := w218 g f (by omega) (by omega)
 unfold entsR at hL
 have hLl : (entListF g f).length ≤ 2^36 := Nat.le_trans (entListF_len g f) hg
 unfold c178; unfold curT; simp
 refine callW_ms [.ro] ?_
 simp
 refine callX_of hL (by simp) ?_
 generalize entListF g f = L at *
 by_cases hL0 : L = []
 ·subst hL0
  simp
  obtain ⟨⟨i1, h1, e1⟩, a1, hC1⟩ := w219 bs i0 h0 g f hb hi0 hg
  simp only at a1 hC1
  unfold curT entsO at hC1
  refine callW_ms [.own, .own] ?_
  simp
  refine callX_of hC1 (by simp) ?_
  simp
  refine exK_of (i1, h1, e1) a1 ?_
  simp
 ·have hpos : 0 < L.length := List.length_pos_iff.2 hL0
  have hne : ¬ ((L.length : Int) = 0) := by omega
  simp [hne, hL0]
  obtain ⟨⟨i1, h1, y1⟩, a1, hC1⟩ := w132 bs i0 h0 9 hb hi0
  simp only at a1 hC1
  unfold curT at hC1
  refine callW_ms [.own, .ro] ?_
  simp
  refine callX_of hC1 (by simp) ?_
  cases y1 with
  | true =>
   simp
   obtain ⟨⟨i2, h2, e2⟩, a2, hC2⟩ := w219 bs i1 h1 g f hb a1 hg
   simp only at a2 hC2
   unfold curT entsO at hC2
   refine callW_ms [.own, .own] ?_
   simp
   refine callX_of hC2 (by simp) ?_
   simp
   refine exK_of (i2, h2, e2) a2 ?_
   simp
  | false =>
   simp
   obtain ⟨⟨i2, h2, y2⟩, ⟨a2, b2, c2⟩, hC2⟩ := w142 bs i1 h1 (L.length : Int) hb a1
   simp only at a2 b2 c2 hC2
   unfold curT at hC2
   refine callW_ms [.own, .ro] ?_
   simp
   refine callX_of hC2 (by simp) ?_
   simp
   have c3 := c2 (by omega)
   obtain ⟨e, he⟩ : ∃ e, L[y2.toNat]? = some e := get_some (by omega)
   simp [he]
   refine ⟨b2, c3, exK_of (i2, h2, e) a2 ?_⟩
   simp
set_option maxRecDepth 100000 in
theorem w184 (bs : List Int) (i0 : Nat) (h0 : Int) (c r d : DcP) (hb : bs.length ≤ 2^40) (hi0 : i0 ≤ bs.length) (hc : c.length ≤ 20) : ∃ x : Nat × Int × CellP, (x.1 ≤ bs.length ∧ valOkF x.2.2.2) ∧ Contract Try.prog true 184 [.own, .own] [curT bs i0 h0, regO c r d] [.i .i64 x.2.2.1, valV x.2.2.2] [some (curT bs x.1 x.2.1), some (.sl true 2 (c.map dT)), some (.sl true 2 (r.map dT)), some (.sl true 2 (d.map dT))] := by
 refine mk_contractE [some [(1, 0)], some [(5, 0), (0, 0)], some [(5, 0), (0, 1)], some [(5, 0), (0, 2)]] Try.func184 (c := Try.f184.body.get!) (by kernel_rfl) k184 r184 (of_decide_eq_true rfl) ?_
 unfold c184; unfold curT regO; simp
 have hw : IntKind.i64.wrap ((c.length : Int) + 1) = c.length + 1 := wrap_id (by omega) (by omega)
 have hw1 : IntKind.i64.wrap ((c.length : Int) - 1) = c.length - 1 := wrap_id (by omega) (by omega)
 simp [hw]
 obtain ⟨⟨i1, h1, k⟩, ⟨a1, b1, c1⟩, hC1⟩ := w142 bs i0 h0 ((c.length : Int) + 1) hb hi0
 simp only at a1 b1 c1 hC1
 unfold curT at hC1
 refine callW_ms [.own, .ro] ?_
 simp
 refine callX_of hC1 (by simp) ?_
 simp
 have c2 := c1 (by omega)
 by_cases hk : k = (c.length : Int)
 ·subst hk
  simp
  obtain ⟨⟨i2, h2, y2⟩, a2, hC2⟩ := w132 bs i1 h1 2 hb a1
  simp only at a2 hC2
  unfold curT at hC2
  refine callW_ms [.own, .ro] ?_
  simp
  refine callX_of hC2 (by simp) ?_
  cases y2 with
  | true =>
   simp
   obtain ⟨⟨i3, h3, v3⟩, ⟨a3, b3, c3⟩, hC3⟩ := w182 bs i2 h2 hb a2
   simp only at a3 b3 hC3
   unfold curT valV at hC3
   refine callW_ms [.own] ?_
   simp
   refine callX_of hC3 (by simp) ?_
   simp [hw1]
   refine callW_ms [.ro, .ro, .ro] ?_
   simp
   refine callX_of ((w87 (-1) 0 ((c.length : Int) - 1)).f (by omega)) (by simp) ?_
   simp
   refine exK_of (i3, h3, ((-1), v3)) ⟨a3, b3⟩ ?_
   simp [valV]
  | false =>
   simp
   obtain ⟨⟨i3, h3, v3⟩, ⟨a3, b3, c3⟩, hC3⟩ := w182 bs i2 h2 hb a2
   simp only at a3 b3 hC3
   unfold curT valV at hC3
   refine callW_ms [.own] ?_
   simp
   refine callX_of hC3 (by simp) ?_
   simp [hw1]
   refine callW_ms [.ro, .ro, .ro] ?_
   simp
   refine callX_of ((w87 (c.length : Int) 0 ((c.length : Int) - 1)).f (by omega)) (by simp) ?_
   simp
   refine exK_of (i3, h3, ((c.length : Int), v3)) ⟨a3, b3⟩ ?_
   simp [valV]
 ·simp [hk]
  obtain ⟨⟨i3, h3, v3⟩, ⟨a3, b3, c3⟩, hC3⟩ := w182 bs i1 h1 hb a1
  simp only at a3 b3 hC3
  unfold curT valV at hC3
  refine callW_ms [.own] ?_
  simp
  refine callX_of hC3 (by simp) ?_
  simp [hw1]
  have hin : 0 ≤ k ∧ k ≤ (c.length : Int) - 1 := by omega
  obtain ⟨dc, hdc⟩ : ∃ dc, c[k.toNat]? = some dc := get_some (by omega)
  have hkl : k.toNat < c.length := by omega
  refine callW_ms [.ro, .ro, .ro] ?_
  simp
  refine callX_of ((w87 k 0 ((c.length : Int) - 1)).t hin) (by simp) ?_
  simp [hdc, hw1, b1]
  obtain ⟨⟨i4, h4, y4⟩, a4, hC4⟩ := w132 bs i3 h3 8 hb a3
  simp only at a4 hC4
  unfold curT at hC4
  refine callW_ms [.own, .ro] ?_
  simp
  refine callX_of hC4 (by simp) ?_
  cases y4 with
  | true =>
   simp
   refine exK_of (i4, h4, (k, v3)) ⟨a4, b3⟩ ?_
   simp [valV]
  | false =>
   simp [hdc, b1, hin.1]
   refine ⟨by omega, ?_⟩
   by_cases hkd : 1 ≤ dc.2 ∧ dc.2 ≤ 4
   ·refine callW_ms [.ro, .ro, .ro] ?_
    simp
    refine callX_of ((w87 dc.2 1 4).t hkd) (by simp) ?_
    simp [hdc, b1]
    refine ⟨by omega, ?_⟩
    obtain ⟨⟨i5, h5, v5⟩, ⟨a5, b5, c5⟩, hC5⟩ := w173 bs i4 h4 dc.2 hb a4
    simp only at a5 b5 hC5
    unfold curT valV at hC5
    refine callW_ms [.own, .ro] ?_
    simp
    refine callX_of hC5 (by simp) ?_
    simp
    refine exK_of (i5, h5, (k, v5)) ⟨a5, b5⟩ ?_
    simp [valV]
   ·refine callW_ms [.ro, .ro, .ro] ?_
    simp
    refine callX_of ((w87 dc.2 1 4).f hkd) (by simp) ?_
    simp
    refine exK_of (i4, h4, (k, v3)) ⟨a4, b3⟩ ?_
    simp [valV]
end Go.Proofs.YtmedelmfkciblaaT


namespace Go.Proofs.YtmedelmfkciblaaT
set_option linter.unusedVariables false
set_option linter.unusedSimpArgs false
open Go
theorem no_tb {a : List (List TV)} {T : List TableP} (h : a = T.map tbO) : a = T.map tbO ∧ noROLL a = true := ⟨h, by rw [h]; simp⟩
set_option maxHeartbeats 4000000 in
set_option maxRecDepth 100000 in
theorem w177 (g f : List Int) (ts : List TableP) (rs : List ValP) (i k : Nat) (t : TableP) (e : Int × Int) (c : CellP) (hg : g.length ≤ 2^36) (hf : f.length ≤ 2^36) (hrs : rs.length ≤ 2^36) (E : EvenP ts) (P : AtP ts i k t e) (hlv : liveP g f e.1 e.2) : Contract Try.prog false 177 [.own, .ro, .ro, .ro] [worldO g f ts rs, .ag (eT e), .i .i64 c.1, valV c.2] [worldO g f (putTs ts i k t e c).1 rs, .i .i64 (putTs ts i k t e c).2] [none, none, none, none] := by
 refine mk_contract [none, none, none, none] Try.func177 (c := Try.f177.body.get!) (by kernel_rfl) k177 r177 (of_decide_eq_true rfl) fun _ => ?_
 have hok : okW (g, f, ts, rs) := ⟨hg, hf, ⟨by have := E.n; simp only; omega, E.okT⟩, hrs⟩
 have hW := w59 (g, f, ts, rs) e hok
 simp only [P.hw] at hW
 have hlive := (w215 g f e.1 e.2 (by omega) (by omega)).t hlv
 simp only [entsR, entT] at hlive
 have ht := P.ht
 have hm := List.mem_of_getElem? ht
 have hil := (List.getElem?_eq_some_iff.1 ht).1
 have hkl : k < t.2.1.length := (List.getElem?_eq_some_iff.1 P.he).1
 have hn := E.n
 have hA := w100 t.1 c.1 (by have := E.c t hm; omega)
 have hidx := idx_lt (l := t.1) (x := c.1)
 have hR := w216 g f ts rs i k t (by omega) ht (by have := E.c t hm; omega) (E.s t hm) (E.v t hm) hkl
 have hrl := rowL_len (k := k) (E.s t hm)
 have hc30 := E.c t hm
 unfold putTs
 generalize hix : idxF t.1 c.1 = ix at *
 obtain ⟨M, hM⟩ : ∃ M, M = rowL t k := ⟨_, rfl⟩
 rw [← hM] at hR hrl ⊢
 by_cases hx0 : 0 ≤ ix
 ·rw [if_pos hx0]
  obtain ⟨vs, hvs⟩ : ∃ vs, t.2.2[ix.toNat]? = some vs := get_some (by rw [E.s t hm]; exact hidx hx0)
  have hvl := E.v t hm vs (List.mem_of_getElem? hvs)
  obtain ⟨v0, hv0⟩ : ∃ v, vs[k]? = some v := get_some (by omega)
  obtain ⟨TS, hTS⟩ : ∃ TS, TS = setTs ts i k ix.toNat c.2 := ⟨_, rfl⟩
  rw [← hTS]
  unfold c177; unfold valV; simp
  refine callW_ms [.ro, .ro] ?_
  simp
  refine callX_of hlive (by simp) ?_
  simp
  refine callW_ms [.ro, .ro] ?_
  simp
  refine callX_of hW (by simp) ?_
  simp [ht]
  refine ⟨hil, ?_⟩
  refine callW_ms [.ro, .ro] ?_
  simp [ht]
  refine callX_of hA (by simp) ?_
  simp [ht, hx0, hvs, hv0]
  have hixl : ix.toNat < t.2.2.length := (List.getElem?_eq_some_iff.1 hvs).1
  refine ⟨hil, by omega, by omega, ?_⟩
  refine no_tb ?_
  rw [mod_mod, mod_mod, mod_mod, hTS]
  unfold setTs
  refine map_mod2 ht ?_
  simp only [tbO]
  show [TV.sl true 1 (t.1.map iT), TV.sl true 2 (t.2.1.map eT), TV.sl true 1 (((((t.2.2.map cvO).modify ix.toNat _).modify ix.toNat _).modify ix.toNat _).modify ix.toNat _)] = _
  rw [mod_mod, mod_mod, mod_mod]
  congr 4
  refine map_mod2 hvs ?_
  simp only [cvO]
  show [TV.sl true 4 (((((vs.map vT).modify k _).modify k _).modify k _).modify k _)] = _
  rw [mod_vT c.2 hv0]
 ·rw [if_neg hx0]
  have hlM := insC_len c M
  obtain ⟨TS, hTS⟩ : ∃ TS : List TableP × Int, TS = if fullT ts (colsOf (insC c M)) then (ts, 3) else (moveTs ts i k e (insC c M), 0) := ⟨_, rfl⟩
  rw [← hTS]
  have hMv : Contract Try.prog false 217 [.own, .ro, .ro, .ro] [worldO g f ts rs, .i .i64 i, .i .i64 k, .sl false 5 ((insC c M).map clT)] [worldO g f TS.1 rs, .i .i64 TS.2] [none, none, none, none] := by
   rw [hTS]
   by_cases hfu : fullT ts (colsOf (insC c M))
   ·rw [if_pos hfu]
    exact W217f g f ts rs i k (insC c M) (fun t ht => by have := E.c t ht; omega) hn (by omega) hfu
   ·rw [if_neg hfu]
    refine w217 g f ts rs i k (insC c M) t e (fun t ht => by have := E.c t ht; omega) hn (by omega) hfu ht P.he ?_ E.r E.s E.v
    intro h
    have := congrArg List.length h
    simp [colsOf, hlM] at this
    omega
  unfold c177; unfold valV; simp
  refine callW_ms [.ro, .ro] ?_
  simp
  refine callX_of hlive (by simp) ?_
  simp
  refine callW_ms [.ro, .ro] ?_
  simp
  refine callX_of hW (by simp) ?_
  simp [ht]
  refine ⟨hil, ?_⟩
  refine callW_ms [.ro, .ro] ?_
  simp [ht]
  refine callX_of hA (by simp) ?_
  simp [ht, hx0]
  refine callW_ms [.ro, .ro, .ro] ?_
  simp
  refine callX_of hR (by simp) ?_
  simp
  refine twp_forR M.length (fun j s => ∃ (Q : List CellP) (dn : Bool), putUp c M j Q dn ∧ s.t 2 = .i .i64 c.1 ∧ s.t 4 = .pt [(6, 0)] 0 0 ∧ s.t 7 = .pt [(9, 0)] 0 0 ∧ s.t 8 = .pt [(10, 0)] 0 0 ∧ s.t 10 = .i .i64 i ∧ s.t 11 = .i .i64 k ∧ s.t 13 = .rf [(88, 0)] 0 Q.length ∧ s.t 14 = .rf [(58, 0)] 0 M.length ∧ s.t 15 = .b dn ∧ s.t 16 = .i .i64 j ∧ s.H = lk [(1, [.junk, .junk, .junk, .junk]), (6, [.po true [.sl true 1 (g.map iT), .sl true 1 (f.map iT), .sl true 3 (ts.map tbO), .sl true 4 (rs.map vT)]]), (7, [.po true [.i .i64 e.1, .i .i64 e.2]]), (9, [.po true [.i .i64 c.2.1, .i .i64 c.2.2.1, .f c.2.2.2.1, .f c.2.2.2.2]]), (10, [.po true [.sl true 1 [], .sl true 1 [], .sl true 3 [], .sl true 4 []]]), (88, [.sl true 5 (Q.map clT)]), (58, [.sl true 5 (M.map clT)])]) [80, 81, 87] [(54, 88)] (by simp) (by simp) ?_ ?_
  ·refine ⟨[], false, putUp.zero c M, ?_⟩
   simp
  ·rintro j s hj ⟨Q, dn, hQ, q2, q4, q7, q8, q10, q11, q13, q14, q15, q16, qH⟩
   rw [nf_of qH]
   have hQl := hQ.len
   have hw : IntKind.i64.wrap ((j : Int) + 1) = j + 1 := wrap_id (by omega) (by omega)
   cases hb9 : decide (j < M.length)
   ·have hge := of_decide_eq_false hb9
    obtain rfl : j = M.length := by omega
    cases dn with
    | true =>
     have hQ2 := hQ.done
     subst hQ2
     simp [q2, q4, q7, q8, q10, q11, q13, q14, q15, q16, hb9]
     refine callW_ms [.own, .ro, .ro, .ro] ?_
     simp
     refine callX_of hMv (by simp) ?_
     simp [q8]
    | false =>
     have hQ2 := hQ.last
     simp [q2, q4, q7, q8, q10, q11, q13, q14, q15, q16, hb9]
     refine ⟨by omega, ?_⟩
     have eQ : List.map clT Q ++ [[TV.i .i64 c.1, TV.i .i64 c.2.1, TV.i .i64 c.2.2.1, TV.f c.2.2.2.1, TV.f c.2.2.2.2]] = (insC c M).map clT := by rw [← hQ2]; simp
     have eL : Q.length + 1 = (insC c M).length := by rw [← hQ2]; simp
     rw [eQ, eL]
     refine callW_ms [.own, .ro, .ro, .ro] ?_
     simp
     refine callX_of hMv (by simp) ?_
     simp [q8]
   ·have hlt := of_decide_eq_true hb9
    obtain ⟨x, hx⟩ := get_some hlt
    cases dn with
    | true =>
     simp [q2, q4, q7, q8, q10, q11, q13, q14, q15, q16, hb9, hx, hw]
     refine ⟨hlt, by omega, hlt, Q ++ [x], hQ.old hx (.inl rfl), by simp, ?_⟩
     simp
    | false =>
     simp [q2, q4, q7, q8, q10, q11, q13, q14, q15, q16, hb9, hx, hw]
     refine ⟨hlt, fun hc => ⟨by omega, hlt, by omega, hlt, Q ++ [c] ++ [x], hQ.new hx hc, by simp, ?_⟩, fun hc => ?_⟩
     ·simp
     ·refine ⟨hlt, by omega, hlt, Q ++ [x], hQ.old hx (.inr (by omega)), by simp, ?_⟩
      simp
end Go.Proofs.YtmedelmfkciblaaT

