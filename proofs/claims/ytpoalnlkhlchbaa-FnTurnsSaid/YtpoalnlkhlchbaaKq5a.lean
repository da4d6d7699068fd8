/- Small whole parts: what is found by reckoning. -/
import Derived.Test.YtpoalnlkhlchbaaKf0
namespace Go.Proofs.YtpoalnlkhlchbaaT
set_option linter.unusedVariables false
set_option linter.unusedSimpArgs false
open Go

def ONE : Nat := 4607182418800017408
def NZ : Nat := 9223372036854775808
def isNum (x : Nat) : Bool := match Ieee.double.read x with | .number _ _ _ => true | _ => false
def smallT (n : Int) : Bool :=
  (fltArith .mul (flI n) ONE == flI n) && (fltArith .mul (flI n) 0 == if n < 0 then NZ else 0) &&
  (n == 0 || (fltArith .sub 0 (flI n) == flI (-n)) && (fltArith .sub NZ (flI n) == flI (-n)) && (fltArith .add (flI n) 0 == flI n) && (fltArith .add (flI n) NZ == flI n) && (canon (Op.negFloat .f64 (flI n)) == flI (-n))) &&
  (fltArith .mul (flI (-n)) (flI (-n)) == fltArith .mul (flI n) (flI n)) && isNum (fltArith .mul (flI n) (flI n))
def smallL : Nat → Int → Bool
  | 0, _ => true
  | k + 1, n => smallT n && smallL k (n + 1)
theorem smallL_elim : ∀ (m : Nat) (n : Int) (k : Nat), smallL m n = true → k < m → smallT (n + k) = true
  | 0, n, k, _, h => by omega
  | m + 1, n, 0, ha, h => by
    rw [smallL, Bool.and_eq_true] at ha
    rw [show n + ((0 : Nat) : Int) = n by omega]; exact ha.1
  | m + 1, n, k + 1, ha, h => by
    rw [smallL, Bool.and_eq_true] at ha
    have := smallL_elim m (n + 1) k ha.2 (by omega)
    rwa [show n + 1 + (k : Int) = n + ((k + 1 : Nat) : Int) by omega] at this
theorem sc0 : smallL 9 (-256) = true := by decide +kernel
theorem sc1 : smallL 9 (-247) = true := by decide +kernel
theorem sc2 : smallL 9 (-238) = true := by decide +kernel
theorem sc3 : smallL 9 (-229) = true := by decide +kernel
theorem sc4 : smallL 9 (-220) = true := by decide +kernel
theorem sc5 : smallL 9 (-211) = true := by decide +kernel
theorem sc6 : smallL 9 (-202) = true := by decide +kernel
theorem sc7 : smallL 9 (-193) = true := by decide +kernel
theorem sc8 : smallL 9 (-184) = true := by decide +kernel
theorem sc9 : smallL 9 (-175) = true := by decide +kernel
theorem sc10 : smallL 9 (-166) = true := by decide +kernel
theorem sc11 : smallL 9 (-157) = true := by decide +kernel
theorem sc12 : smallL 9 (-148) = true := by decide +kernel
theorem sc13 : smallL 9 (-139) = true := by decide +kernel
theorem sc14 : smallL 9 (-130) = true := by decide +kernel
theorem sc15 : smallL 9 (-121) = true := by decide +kernel
theorem sc16 : smallL 9 (-112) = true := by decide +kernel
theorem sc17 : smallL 9 (-103) = true := by decide +kernel
theorem sc18 : smallL 9 (-94) = true := by decide +kernel
theorem sc19 : smallL 9 (-85) = true := by decide +kernel
theorem sc20 : smallL 9 (-76) = true := by decide +kernel
theorem sc21 : smallL 9 (-67) = true := by decide +kernel
theorem sc22 : smallL 9 (-58) = true := by decide +kernel
theorem sc23 : smallL 9 (-49) = true := by decide +kernel
theorem sc24 : smallL 9 (-40) = true := by decide +kernel
theorem sc25 : smallL 9 (-31) = true := by decide +kernel
theorem sc26 : smallL 9 (-22) = true := by decide +kernel
theorem sc27 : smallL 9 (-13) = true := by decide +kernel
theorem sc28 : smallL 9 (-4) = true := by decide +kernel
theorem sc29 : smallL 9 (5) = true := by decide +kernel
theorem sc30 : smallL 9 (14) = true := by decide +kernel
theorem sc31 : smallL 9 (23) = true := by decide +kernel
theorem sc32 : smallL 9 (32) = true := by decide +kernel
theorem sc33 : smallL 9 (41) = true := by decide +kernel
theorem sc34 : smallL 9 (50) = true := by decide +kernel
theorem sc35 : smallL 9 (59) = true := by decide +kernel
theorem sc36 : smallL 9 (68) = true := by decide +kernel
theorem sc37 : smallL 9 (77) = true := by decide +kernel
theorem sc38 : smallL 9 (86) = true := by decide +kernel
theorem sc39 : smallL 9 (95) = true := by decide +kernel
theorem sc40 : smallL 9 (104) = true := by decide +kernel
theorem sc41 : smallL 9 (113) = true := by decide +kernel
theorem sc42 : smallL 9 (122) = true := by decide +kernel
theorem sc43 : smallL 9 (131) = true := by decide +kernel
theorem sc44 : smallL 9 (140) = true := by decide +kernel
theorem sc45 : smallL 9 (149) = true := by decide +kernel
theorem sc46 : smallL 9 (158) = true := by decide +kernel
theorem sc47 : smallL 9 (167) = true := by decide +kernel
theorem sc48 : smallL 9 (176) = true := by decide +kernel
theorem sc49 : smallL 9 (185) = true := by decide +kernel
theorem sc50 : smallL 9 (194) = true := by decide +kernel
theorem sc51 : smallL 9 (203) = true := by decide +kernel
theorem sc52 : smallL 9 (212) = true := by decide +kernel
theorem sc53 : smallL 9 (221) = true := by decide +kernel
theorem sc54 : smallL 9 (230) = true := by decide +kernel
theorem sc55 : smallL 9 (239) = true := by decide +kernel
theorem sc56 : smallL 9 (248) = true := by decide +kernel
theorem small_ok {n : Int} (h0 : -256 ≤ n) (h1 : n ≤ 256) : smallT n = true := by
  obtain ⟨q, r, hq, hr, e⟩ : ∃ q r : Nat, q < 57 ∧ r < 9 ∧ n = -256 + q * 9 + r := ⟨((n + 256) / 9).toNat, ((n + 256) % 9).toNat, by omega, by omega, by omega⟩
  subst e
  have hx : smallL 9 (-256 + q * 9) = true := by
    clear h0 h1 hr
    match q, hq with
    | 0, _ => exact sc0
    | 1, _ => exact sc1
    | 2, _ => exact sc2
    | 3, _ => exact sc3
    | 4, _ => exact sc4
    | 5, _ => exact sc5
    | 6, _ => exact sc6
    | 7, _ => exact sc7
    | 8, _ => exact sc8
    | 9, _ => exact sc9
    | 10, _ => exact sc10
    | 11, _ => exact sc11
    | 12, _ => exact sc12
    | 13, _ => exact sc13
    | 14, _ => exact sc14
    | 15, _ => exact sc15
    | 16, _ => exact sc16
    | 17, _ => exact sc17
    | 18, _ => exact sc18
    | 19, _ => exact sc19
    | 20, _ => exact sc20
    | 21, _ => exact sc21
    | 22, _ => exact sc22
    | 23, _ => exact sc23
    | 24, _ => exact sc24
    | 25, _ => exact sc25
    | 26, _ => exact sc26
    | 27, _ => exact sc27
    | 28, _ => exact sc28
    | 29, _ => exact sc29
    | 30, _ => exact sc30
    | 31, _ => exact sc31
    | 32, _ => exact sc32
    | 33, _ => exact sc33
    | 34, _ => exact sc34
    | 35, _ => exact sc35
    | 36, _ => exact sc36
    | 37, _ => exact sc37
    | 38, _ => exact sc38
    | 39, _ => exact sc39
    | 40, _ => exact sc40
    | 41, _ => exact sc41
    | 42, _ => exact sc42
    | 43, _ => exact sc43
    | 44, _ => exact sc44
    | 45, _ => exact sc45
    | 46, _ => exact sc46
    | 47, _ => exact sc47
    | 48, _ => exact sc48
    | 49, _ => exact sc49
    | 50, _ => exact sc50
    | 51, _ => exact sc51
    | 52, _ => exact sc52
    | 53, _ => exact sc53
    | 54, _ => exact sc54
    | 55, _ => exact sc55
    | 56, _ => exact sc56
    | q + 57, h => exact absurd h (by omega)
  exact smallL_elim 9 _ r hx hr
end Go.Proofs.YtpoalnlkhlchbaaT
