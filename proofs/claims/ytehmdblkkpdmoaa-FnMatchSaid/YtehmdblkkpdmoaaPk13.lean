/- Texts of this session's own, one behind the other: Kr0, Ko1, Kp3, Km4, Kr1, Kn1, Km1, Ku9, Km5, Km6, Km7, Km8, Km9, Kmb. -/
import Derived.Test.YtehmdblkkpdmoaaPk12
namespace Go.Proofs.YtehmdblkkpdmoaaT
set_option linter.unusedVariables false
set_option linter.unusedSimpArgs false
open Go
def c24 : TCode := (.seq (.ops [⟨(some 2), 4, .mv (.c (.b false)), none, []⟩])
 (.seq (.ops [⟨(some 3), 5, .mv (.t 0), none, []⟩, ⟨(some 4), 6, .len false (.t 3), none, []⟩, ⟨(some 5), 7, .bin .gtr (.t 4) (.c (.i .i64 1048576)), none, []⟩, ⟨(some 2), 4, .mv (.t 5), none, []⟩])
 .ret))
theorem k24 : compCode Try.prog Try.f24.ntmps Try.f24.body.get! = some c24 := by kernel_rfl
theorem r24 : resTmps Try.prog Try.f24.results.toList = some [.tmp 2] := by kernel_rfl
def c26 : TCode := (.seq (.ops [⟨(some 4), 6, .mv (.c (.i .i64 0)), none, []⟩])
 (.seq (.seq (.ops [⟨(some 5), 7, .mv (.t 1), none, []⟩, ⟨(some 6), 8, .mv (.t 0), none, []⟩, ⟨(some 7), 9, .len false (.t 6), none, []⟩, ⟨(some 8), 10, .bin .lss (.t 5) (.t 7), none, []⟩])
 (.cond (.t 8)
 (.seq (.ops [⟨(some 9), 11, .mv (.t 0), none, []⟩, ⟨(some 10), 12, .mv (.t 1), none, []⟩, ⟨(some 11), 13, .iaddr 1 (.t 9) (.t 10), none, []⟩, ⟨(some 12), 14, .load false 1 (.t 11), none, []⟩, ⟨(some 13), 15, .toInt .i64 (.t 12), none, []⟩, ⟨(some 4), 6, .mv (.t 13), none, []⟩])
 .ret)
 .skip))
 (.seq (.ops [⟨(some 14), 16, .mv (.t 1), none, []⟩, ⟨(some 15), 17, .bin .mul (.t 14) (.c (.i .i64 7)), none, []⟩, ⟨(some 16), 18, .mv (.t 0), none, []⟩, ⟨(some 17), 19, .len false (.t 16), none, []⟩, ⟨(some 18), 20, .bin .add (.t 15) (.t 17), none, []⟩, ⟨(some 19), 21, .bin .rem (.t 18) (.c (.i .i64 256)), none, []⟩, ⟨(some 4), 6, .mv (.t 19), none, []⟩])
 .ret)))
theorem k26 : compCode Try.prog Try.f26.ntmps Try.f26.body.get! = some c26 := by kernel_rfl
theorem r26 : resTmps Try.prog Try.f26.results.toList = some [.tmp 4] := by kernel_rfl
def c67 : TCode := (.seq (.ops [⟨(some 2), 4, .mv (.c .np), none, []⟩])
 (.seq (.ops [⟨(some 5), 7, .mv (.t 0), none, []⟩, ⟨(some 6), 8, .len false (.t 5), none, []⟩, ⟨(some 7), 9, .bin .add (.c (.i .i64 70070)) (.t 6), none, []⟩, ⟨(some 3), 5, .mv (.t 7), none, []⟩])
 (.seq (.seq (.ops [⟨(some 4), 6, .mv (.c (.i .i64 0)), none, []⟩])
 (.block 0 (.loop (.seq (.seq (.ops [⟨(some 8), 10, .mv (.t 4), none, []⟩, ⟨(some 9), 11, .mv (.t 0), none, []⟩, ⟨(some 10), 12, .len false (.t 9), none, []⟩, ⟨(some 11), 13, .bin .lss (.t 8) (.t 10), none, []⟩, ⟨(some 12), 14, .mv (.t 11), none, []⟩, ⟨(some 13), 15, .mv (.t 4), (some (12, true)), []⟩, ⟨(some 14), 16, .bin .lss (.t 13) (.c (.i .i64 4000)), (some (12, true)), []⟩, ⟨(some 15), 17, .pick (.t 12) (.t 14) (.c (.b false)), none, []⟩])
 (.cond (.t 15)
 .skip
 (.exit 0)))
 (.seq (.block 1 (.ops [⟨(some 18), 20, .mv (.t 3), none, []⟩, ⟨(some 19), 21, .bin .mul (.t 18) (.c (.i .i64 131)), none, []⟩, ⟨(some 20), 22, .mv (.t 0), none, []⟩, ⟨(some 21), 23, .mv (.t 4), none, []⟩, ⟨(some 22), 24, .iaddr 1 (.t 20) (.t 21), none, []⟩, ⟨(some 23), 25, .load false 1 (.t 22), none, []⟩, ⟨(some 24), 26, .toInt .i64 (.t 23), none, []⟩, ⟨(some 25), 27, .bin .add (.t 19) (.t 24), none, []⟩, ⟨(some 26), 28, .bin .add (.t 25) (.c (.i .i64 7)), none, []⟩, ⟨(some 27), 29, .bin .and (.t 26) (.c (.i .i64 1073741823)), none, []⟩, ⟨(some 3), 5, .mv (.t 27), none, []⟩]))
 (.ops [⟨(some 16), 18, .mv (.t 4), none, []⟩, ⟨(some 17), 19, .bin .add (.t 16) (.c (.i .i64 1)), none, []⟩, ⟨(some 4), 6, .mv (.t 17), none, []⟩]))))))
 (.seq (.ops [⟨(some 28), 30, .mv (.t 0), none, []⟩, ⟨(some 29), 31, .mv (.t 3), none, []⟩, ⟨(some 30), 32, .build [(.sl true 1 []), (.i .i64 0), (.i .i64 0)] [(0, 1, (.t 28)), (2, 1, (.t 29))], none, []⟩, ⟨(some 31), 33, .box 3 (.t 30), none, []⟩, ⟨(some 2), 4, .mv (.t 31), none, []⟩])
 .ret))))
theorem k67 : compCode Try.prog Try.f67.ntmps Try.f67.body.get! = some c67 := by kernel_rfl
theorem r67 : resTmps Try.prog Try.f67.results.toList = some [.tmp 2] := by kernel_rfl
def c136 : TCode := (.seq (.ops [⟨(some 2), 4, .mv (.c (.i .i64 0)), none, []⟩])
 (.seq (.ops [⟨(some 4), 6, .mv (.t 0), none, []⟩, ⟨(some 5), 7, .mv (.t 0), none, []⟩, ⟨(some 6), 8, .nilck (.t 5), none, []⟩, ⟨(some 7), 9, .faddr 2 1 (.t 6), none, []⟩, ⟨(some 8), 10, .load false 1 (.t 7), none, []⟩, ⟨(some 9), 11, .bin .mul (.t 8) (.c (.i .i64 6364136223846793005)), none, []⟩, ⟨(some 10), 12, .bin .add (.t 9) (.c (.i .i64 1442695040888963407)), none, []⟩, ⟨(some 11), 13, .nilck (.t 4), none, []⟩, ⟨(some 12), 14, .faddr 2 1 (.t 11), none, []⟩, ⟨none, 1001009, .store 1 (.t 12) (.t 10), none, []⟩])
 (.seq (.draw [⟨(some 13), 15, .mv (.t 0), none, []⟩, ⟨(some 14), 16, .nilck (.t 13), none, []⟩, ⟨(some 15), 17, .faddr 2 1 (.t 14), none, []⟩, ⟨(some 16), 18, .load false 1 (.t 15), none, []⟩, ⟨(some 17), 19, .bin .shr (.t 16) (.c (.i .u64 33)), none, []⟩, ⟨(some 18), 20, .mv (.t 0), none, []⟩, ⟨(some 19), 21, .nilck (.t 18), none, []⟩, ⟨(some 20), 22, .faddr 2 1 (.t 19), none, []⟩, ⟨(some 21), 23, .load false 1 (.t 20), none, []⟩, ⟨(some 22), 24, .bin .shr (.t 21) (.c (.i .u64 45)), none, []⟩, ⟨(some 23), 25, .bin .xor (.t 17) (.t 22), none, []⟩, ⟨(some 24), 26, .bin .and (.t 23) (.c (.i .i64 255)), none, []⟩, ⟨(some 3), 5, .mv (.t 24), none, []⟩])
 (.seq (.seq (.draw [⟨(some 25), 27, .mv (.t 0), none, []⟩, ⟨(some 26), 28, .nilck (.t 25), none, []⟩, ⟨(some 27), 29, .faddr 1 1 (.t 26), none, []⟩, ⟨(some 28), 30, .load false 1 (.t 27), none, []⟩, ⟨(some 29), 31, .mv (.t 0), none, []⟩, ⟨(some 30), 32, .nilck (.t 29), none, []⟩, ⟨(some 31), 33, .faddr 0 1 (.t 30), none, []⟩, ⟨(some 32), 34, .load false 1 (.t 31), none, []⟩, ⟨(some 33), 35, .len false (.t 32), none, []⟩, ⟨(some 34), 36, .bin .lss (.t 28) (.t 33), none, []⟩])
 (.cond (.t 34)
 (.seq (.draw [⟨(some 35), 37, .mv (.t 3), none, []⟩, ⟨(some 36), 38, .mv (.t 0), none, []⟩, ⟨(some 37), 39, .nilck (.t 36), none, []⟩, ⟨(some 38), 40, .faddr 0 1 (.t 37), none, []⟩, ⟨(some 39), 41, .load false 1 (.t 38), none, []⟩, ⟨(some 40), 42, .mv (.t 0), none, []⟩, ⟨(some 41), 43, .nilck (.t 40), none, []⟩, ⟨(some 42), 44, .faddr 1 1 (.t 41), none, []⟩, ⟨(some 43), 45, .load false 1 (.t 42), none, []⟩, ⟨(some 44), 46, .iaddr 1 (.t 39) (.t 43), none, []⟩, ⟨(some 45), 47, .load false 1 (.t 44), none, []⟩, ⟨(some 46), 48, .toInt .i64 (.t 45), none, []⟩, ⟨(some 47), 49, .bin .add (.t 35) (.t 46), none, []⟩, ⟨(some 48), 50, .bin .and (.t 47) (.c (.i .i64 255)), none, []⟩, ⟨(some 3), 5, .mv (.t 48), none, []⟩])
 (.ops [⟨(some 49), 51, .mv (.t 0), none, []⟩, ⟨(some 50), 52, .mv (.t 0), none, []⟩, ⟨(some 51), 53, .nilck (.t 50), none, []⟩, ⟨(some 52), 54, .faddr 1 1 (.t 51), none, []⟩, ⟨(some 53), 55, .load false 1 (.t 52), none, []⟩, ⟨(some 54), 56, .bin .add (.t 53) (.c (.i .i64 1)), none, []⟩, ⟨(some 55), 57, .nilck (.t 49), none, []⟩, ⟨(some 56), 58, .faddr 1 1 (.t 55), none, []⟩, ⟨none, 1005008, .store 1 (.t 56) (.t 54), none, []⟩]))
 .skip))
 (.seq (.ops [⟨(some 57), 59, .mv (.t 3), none, []⟩, ⟨(some 2), 4, .mv (.t 57), none, []⟩])
 .ret)))))
theorem k136 : compCode Try.prog Try.f136.ntmps Try.f136.body.get! = some c136 := by kernel_rfl
theorem r136 : resTmps Try.prog Try.f136.results.toList = some [.tmp 2] := by kernel_rfl
def c108 : TCode := (.seq (.ops [⟨(some 4), 6, .mv (.c (.i .i64 0)), none, []⟩])
 (.seq (.seq (.ops [⟨(some 9), 11, .mv (.t 1), none, []⟩, ⟨(some 10), 12, .bin .leq (.t 9) (.c (.i .i64 0)), none, []⟩])
 (.cond (.t 10)
 (.seq (.ops [⟨(some 4), 6, .mv (.c (.i .i64 0)), none, []⟩])
 .ret)
 .skip))
 (.seq (.seq (.ops [⟨(some 11), 13, .mv (.t 1), none, []⟩, ⟨(some 12), 14, .bin .leq (.t 11) (.c (.i .i64 256)), none, []⟩])
 (.cond (.t 12)
 (.seq (.ops [⟨(some 13), 15, .mv (.t 0), none, []⟩, ⟨(some 14), 16, .call 136 [((.t 13), 3)], none, []⟩, ⟨(some 15), 17, .mv (.t 1), none, []⟩, ⟨(some 16), 18, .bin .rem (.t 14) (.t 15), none, []⟩, ⟨(some 4), 6, .mv (.t 16), none, []⟩])
 .ret)
 .skip))
 (.seq (.ops [⟨(some 17), 19, .mv (.t 0), none, []⟩, ⟨(some 18), 20, .call 136 [((.t 17), 3)], none, []⟩, ⟨(some 5), 7, .mv (.t 18), none, []⟩])
 (.seq (.ops [⟨(some 19), 21, .mv (.t 0), none, []⟩, ⟨(some 20), 22, .call 136 [((.t 19), 3)], none, []⟩, ⟨(some 6), 8, .mv (.t 20), none, []⟩])
 (.seq (.ops [⟨(some 21), 23, .mv (.t 0), none, []⟩, ⟨(some 22), 24, .call 136 [((.t 21), 3)], none, []⟩, ⟨(some 7), 9, .mv (.t 22), none, []⟩])
 (.seq (.ops [⟨(some 23), 25, .mv (.t 0), none, []⟩, ⟨(some 24), 26, .call 136 [((.t 23), 3)], none, []⟩, ⟨(some 8), 10, .mv (.t 24), none, []⟩])
 (.seq (.ops [⟨(some 25), 27, .mv (.t 5), none, []⟩, ⟨(some 26), 28, .bin .mul (.t 25) (.c (.i .i64 16777216)), none, []⟩, ⟨(some 27), 29, .mv (.t 6), none, []⟩, ⟨(some 28), 30, .bin .mul (.t 27) (.c (.i .i64 65536)), none, []⟩, ⟨(some 29), 31, .bin .add (.t 26) (.t 28), none, []⟩, ⟨(some 30), 32, .mv (.t 7), none, []⟩, ⟨(some 31), 33, .bin .mul (.t 30) (.c (.i .i64 256)), none, []⟩, ⟨(some 32), 34, .bin .add (.t 29) (.t 31), none, []⟩, ⟨(some 33), 35, .mv (.t 8), none, []⟩, ⟨(some 34), 36, .bin .add (.t 32) (.t 33), none, []⟩, ⟨(some 35), 37, .mv (.t 1), none, []⟩, ⟨(some 36), 38, .bin .rem (.t 34) (.t 35), none, []⟩, ⟨(some 4), 6, .mv (.t 36), none, []⟩])
 .ret))))))))
theorem k108 : compCode Try.prog Try.f108.ntmps Try.f108.body.get! = some c108 := by kernel_rfl
theorem r108 : resTmps Try.prog Try.f108.results.toList = some [.tmp 4] := by kernel_rfl
def c105 : TCode := (.seq (.ops [⟨(some 4), 6, .mv (.c (.b false)), none, []⟩])
 (.seq (.ops [⟨(some 5), 7, .mv (.t 0), none, []⟩, ⟨(some 6), 8, .mv (.t 1), none, []⟩, ⟨(some 7), 9, .call 108 [((.t 5), 3), ((.t 6), 0)], none, []⟩, ⟨(some 8), 10, .bin .eql (.t 7) (.c (.i .i64 0)), none, []⟩, ⟨(some 4), 6, .mv (.t 8), none, []⟩])
 .ret))
theorem k105 : compCode Try.prog Try.f105.ntmps Try.f105.body.get! = some c105 := by kernel_rfl
theorem r105 : resTmps Try.prog Try.f105.results.toList = some [.tmp 4] := by kernel_rfl
def c125 : TCode := (.seq (.ops [⟨(some 4), 6, .mv (.c (.i .i64 0)), none, []⟩])
 (.seq (.ops [⟨(some 5), 7, .mv (.t 1), none, []⟩, ⟨(some 6), 8, .mv (.t 0), none, []⟩, ⟨(some 7), 9, .mv (.t 1), none, []⟩, ⟨(some 8), 10, .len false (.t 7), none, []⟩, ⟨(some 9), 11, .call 108 [((.t 6), 3), ((.t 8), 0)], none, []⟩, ⟨(some 10), 12, .iaddr 1 (.t 5) (.t 9), none, []⟩, ⟨(some 11), 13, .load false 1 (.t 10), none, []⟩, ⟨(some 4), 6, .mv (.t 11), none, []⟩])
 .ret))
theorem k125 : compCode Try.prog Try.f125.ntmps Try.f125.body.get! = some c125 := by kernel_rfl
theorem r125 : resTmps Try.prog Try.f125.results.toList = some [.tmp 4] := by kernel_rfl
def c126 : TCode := (.seq (.ops [⟨(some 4), 6, .mv (.c (.s ⟨#[]⟩)), none, []⟩])
 (.seq (.ops [⟨(some 5), 7, .mv (.t 1), none, []⟩, ⟨(some 6), 8, .mv (.t 0), none, []⟩, ⟨(some 7), 9, .mv (.t 1), none, []⟩, ⟨(some 8), 10, .len false (.t 7), none, []⟩, ⟨(some 9), 11, .call 108 [((.t 6), 3), ((.t 8), 0)], none, []⟩, ⟨(some 10), 12, .iaddr 1 (.t 5) (.t 9), none, []⟩, ⟨(some 11), 13, .load false 1 (.t 10), none, []⟩, ⟨(some 4), 6, .mv (.t 11), none, []⟩])
 .ret))
theorem k126 : compCode Try.prog Try.f126.ntmps Try.f126.body.get! = some c126 := by kernel_rfl
theorem r126 : resTmps Try.prog Try.f126.results.toList = some [.tmp 4] := by kernel_rfl
@[simp] def uT (n : Int) : List TV := [.i .u8 n]
@[simp] theorem fzL_uT (n : Int) : fzL (uT n) = uT n := rfl
@[simp] theorem noROLL_uT (l : List (Int)) : noROLL (l.map uT) = true := noROLL_map (fun _ => rfl) l
theorem w24 (bs : List Int) : Contract Try.prog false 24 [.ro] [.sl false 1 (bs.map uT)] [.b (decide (1048576 < bs.length))] [] := by
 refine mk_contract [] Try.func24 (c := Try.f24.body.get!) (by kernel_rfl) k24 r24 (of_decide_eq_true rfl) fun _ => ?_
 unfold c24; simp
 omega
def atF (bs : List Int) (i : Nat) : Int := match bs[i]? with | some x => IntKind.i64.wrap x | none => ((i : Int) * 7 + bs.length).tmod 256
theorem w26 (bs : List Int) (i : Nat) (hb : bs.length ≤ 2^40) (hi : i ≤ 2^40) : Contract Try.prog false 26 [.ro, .ro] [.sl false 1 (bs.map uT), .i .i64 i] [.i .i64 (atF bs i)] [] := by
 refine mk_contract [] Try.func26 (c := Try.f26.body.get!) (by kernel_rfl) k26 r26 (of_decide_eq_true rfl) fun _ => ?_
 have w1 : IntKind.i64.wrap ((i : Int) * 7) = i * 7 := wrap_id (by omega) (by omega)
 have w2 : IntKind.i64.wrap ((i : Int) * 7 + bs.length) = i * 7 + bs.length := wrap_id (by omega) (by omega)
 unfold c26; simp
 refine ⟨fun hlt => ?_, fun hge => ?_⟩
 ·obtain ⟨x, hx⟩ := get_some hlt
  simp [hx, atF]
 ·have hx : bs[i]? = none := List.getElem?_eq_none (by omega)
  simp [hx, atF, w1, w2]
def bytes (bs : List Int) : Prop := ∀ x ∈ bs, 0 ≤ x ∧ x ≤ 255
def curT (bs : List Int) (i : Nat) (h : Int) : TV := .po true [.sl false 1 (bs.map uT), .i .i64 i, .i .i64 h]
def byteF (n : Nat) : Int := IntKind.i64.wrap ((n &&& 255 % 2 ^ IntKind.i64.bits : Nat) : Int)
theorem byteF_in (n : Nat) : 0 ≤ byteF n ∧ byteF n ≤ 255 := by
 have h : n &&& 255 % 2 ^ IntKind.i64.bits ≤ 255 := Nat.le_trans Nat.and_le_right (by decide)
 unfold byteF
 rw [wrap_id (by omega) (by omega)]
 omega
@[simp] theorem byteF_eq (n : Nat) : IntKind.i64.wrap ((n &&& 255 % 2 ^ IntKind.i64.bits : Nat) : Int) = byteF n := rfl
theorem w136 (bs : List Int) (i : Nat) (h : Int) (hb : bs.length ≤ 2^40) (hi : i ≤ bs.length) : ∃ x : Nat × Int × Int, (x.1 ≤ bs.length ∧ 0 ≤ x.2.2 ∧ x.2.2 ≤ 255) ∧ Contract Try.prog true 136 [.own] [curT bs i h] [.i .i64 x.2.2] [some (curT bs x.1 x.2.1)] := by
 refine mk_contractE [some [(1, 0)]] Try.func136 (c := Try.f136.body.get!) (by kernel_rfl) k136 r136 (of_decide_eq_true rfl) ?_
 unfold c136; unfold curT; simp
 have hw : IntKind.i64.wrap ((i : Int) + 1) = i + 1 := wrap_id (by omega) (by omega)
 refine ⟨fun hlt => ?_, fun hge => ?_⟩
 ·obtain ⟨b, hbb⟩ := get_some hlt
  simp [hbb, hw]
  generalize IntKind.i64.wrap (IntKind.i64.wrap (h * 6364136223846793005) + 1442695040888963407) = h2
  generalize byteF (IntKind.i64.wrap ↑((h2.fdiv (2 ^ min 33 IntKind.i64.bits) % 2 ^ IntKind.i64.bits).toNat ^^^ (h2.fdiv (2 ^ min 45 IntKind.i64.bits) % 2 ^ IntKind.i64.bits).toNat) % 2 ^ IntKind.i64.bits).toNat = x1
  obtain ⟨y, hy⟩ : ∃ y, y = byteF (IntKind.i64.wrap (x1 + IntKind.i64.wrap b) % 2 ^ IntKind.i64.bits).toNat := ⟨_, rfl⟩
  have hy2 := byteF_in (IntKind.i64.wrap (x1 + IntKind.i64.wrap b) % 2 ^ IntKind.i64.bits).toNat
  rw [← hy] at hy2 ⊢
  refine exK_of (i + 1, h2, y) ⟨hlt, hy2.1, hy2.2⟩ ?_
  simp
 ·generalize IntKind.i64.wrap (IntKind.i64.wrap (h * 6364136223846793005) + 1442695040888963407) = h2
  have hy2 := byteF_in (IntKind.i64.wrap ↑((h2.fdiv (2 ^ min 33 IntKind.i64.bits) % 2 ^ IntKind.i64.bits).toNat ^^^ (h2.fdiv (2 ^ min 45 IntKind.i64.bits) % 2 ^ IntKind.i64.bits).toNat) % 2 ^ IntKind.i64.bits).toNat
  generalize byteF (IntKind.i64.wrap ↑((h2.fdiv (2 ^ min 33 IntKind.i64.bits) % 2 ^ IntKind.i64.bits).toNat ^^^ (h2.fdiv (2 ^ min 45 IntKind.i64.bits) % 2 ^ IntKind.i64.bits).toNat) % 2 ^ IntKind.i64.bits).toNat = y at *
  refine exK_of (i, h2, y) ⟨hi, hy2.1, hy2.2⟩ ?_
  simp
theorem tmod_in {a n : Int} (ha : 0 ≤ a) (hn : 0 < n) : 0 ≤ a.tmod n ∧ a.tmod n < n := ⟨Int.tmod_nonneg _ ha, Int.tmod_lt_of_pos _ hn⟩
set_option maxRecDepth 100000 in
theorem w108 (bs : List Int) (i : Nat) (h n : Int) (hb : bs.length ≤ 2^40) (hi : i ≤ bs.length) : ∃ x : Nat × Int × Int, (x.1 ≤ bs.length ∧ 0 ≤ x.2.2 ∧ (0 < n → x.2.2 < n)) ∧ Contract Try.prog true 108 [.own, .ro] [curT bs i h, .i .i64 n] [.i .i64 x.2.2] [some (curT bs x.1 x.2.1)] := by
 refine mk_contractE [some [(1, 0)]] Try.func108 (c := Try.f108.body.get!) (by kernel_rfl) k108 r108 (of_decide_eq_true rfl) ?_
 unfold c108; unfold curT; simp
 refine ⟨fun hn0 => ?_, fun hn0 => ?_⟩
 ·refine exK_of (i, h, 0) ⟨hi, Int.le_refl 0, fun h2 => by omega⟩ ?_
  simp
 refine ⟨fun hn1 => ?_, fun hn1 => ?_⟩
 ·obtain ⟨⟨i1, h1, y⟩, ⟨a1, a2, a3⟩, hC⟩ := w136 bs i h hb hi
  simp only at a1 a2 a3 hC
  unfold curT at hC
  refine callW_ms [.own] ?_
  simp
  refine callX_of hC (by simp) ?_
  have hm := tmod_in a2 (show 0 < n by omega)
  simp
  refine ⟨by omega, exK_of (i1, h1, y.tmod n) ⟨a1, hm.1, fun _ => hm.2⟩ ?_⟩
  simp
 ·obtain ⟨⟨i1, h1, y1⟩, ⟨a1, b1, c1⟩, hC1⟩ := w136 bs i h hb hi
  simp only at a1 b1 c1 hC1
  unfold curT at hC1
  refine callW_ms [.own] ?_
  simp
  refine callX_of hC1 (by simp) ?_
  simp
  obtain ⟨⟨i2, h2, y2⟩, ⟨a2, b2, c2⟩, hC2⟩ := w136 bs i1 h1 hb a1
  simp only at a2 b2 c2 hC2
  unfold curT at hC2
  refine callW_ms [.own] ?_
  simp
  refine callX_of hC2 (by simp) ?_
  simp
  obtain ⟨⟨i3, h3, y3⟩, ⟨a3, b3, c3⟩, hC3⟩ := w136 bs i2 h2 hb a2
  simp only at a3 b3 c3 hC3
  unfold curT at hC3
  refine callW_ms [.own] ?_
  simp
  refine callX_of hC3 (by simp) ?_
  simp
  obtain ⟨⟨i4, h4, y4⟩, ⟨a4, b4, c4⟩, hC4⟩ := w136 bs i3 h3 hb a3
  simp only at a4 b4 c4 hC4
  unfold curT at hC4
  refine callW_ms [.own] ?_
  simp
  refine callX_of hC4 (by simp) ?_
  have w1 : IntKind.i64.wrap (y1 * 16777216) = y1 * 16777216 := wrap_id (by omega) (by omega)
  have w2 : IntKind.i64.wrap (y2 * 65536) = y2 * 65536 := wrap_id (by omega) (by omega)
  have w3 : IntKind.i64.wrap (y3 * 256) = y3 * 256 := wrap_id (by omega) (by omega)
  have w4 : IntKind.i64.wrap (y1 * 16777216 + y2 * 65536) = y1 * 16777216 + y2 * 65536 := wrap_id (by omega) (by omega)
  have w5 : IntKind.i64.wrap (y1 * 16777216 + y2 * 65536 + y3 * 256) = y1 * 16777216 + y2 * 65536 + y3 * 256 := wrap_id (by omega) (by omega)
  have w6 : IntKind.i64.wrap (y1 * 16777216 + y2 * 65536 + y3 * 256 + y4) = y1 * 16777216 + y2 * 65536 + y3 * 256 + y4 := wrap_id (by omega) (by omega)
  have hm := tmod_in (a := y1 * 16777216 + y2 * 65536 + y3 * 256 + y4) (by omega) (show 0 < n by omega)
  simp [w1, w2, w3, w4, w5, w6]
  refine ⟨by omega, exK_of (i4, h4, (y1 * 16777216 + y2 * 65536 + y3 * 256 + y4).tmod n) ⟨a4, hm.1, fun _ => hm.2⟩ ?_⟩
  simp
theorem w105 (bs : List Int) (i : Nat) (h n : Int) (hb : bs.length ≤ 2^40) (hi : i ≤ bs.length) : ∃ x : Nat × Int × Bool, (x.1 ≤ bs.length) ∧ Contract Try.prog true 105 [.own, .ro] [curT bs i h, .i .i64 n] [.b x.2.2] [some (curT bs x.1 x.2.1)] := by
 refine mk_contractE [some [(1, 0)]] Try.func105 (c := Try.f105.body.get!) (by kernel_rfl) k105 r105 (of_decide_eq_true rfl) ?_
 unfold c105; unfold curT; simp
 obtain ⟨⟨i1, h1, y⟩, ⟨a1, a2, a3⟩, hC⟩ := w108 bs i h n hb hi
 simp only at a1 a2 a3 hC
 unfold curT at hC
 refine callW_ms [.own, .ro] ?_
 simp
 refine callX_of hC (by simp) ?_
 simp
 refine exK_of (i1, h1, decide (y = 0)) a1 ?_
 simp
theorem w125 (bs L : List Int) (i : Nat) (h : Int) (hb : bs.length ≤ 2^40) (hi : i ≤ bs.length) (hL : 0 < L.length) (hL2 : L.length ≤ 256) : ∃ x : Nat × Int × Int, (x.1 ≤ bs.length ∧ x.2.2 ∈ L) ∧ Contract Try.prog true 125 [.own, .own] [curT bs i h, .sl true 1 (L.map iT)] [.i .i64 x.2.2] [some (curT bs x.1 x.2.1), none] := by
 refine mk_contractE [some [(1, 0)], none] Try.func125 (c := Try.f125.body.get!) (by kernel_rfl) k125 r125 (of_decide_eq_true rfl) ?_
 unfold c125; unfold curT; simp
 obtain ⟨⟨i1, h1, y⟩, ⟨a1, a2, a3⟩, hC⟩ := w108 bs i h L.length hb hi
 simp only at a1 a2 a3 hC
 unfold curT at hC
 have hy := a3 (by omega)
 obtain ⟨z, hz⟩ : ∃ z, L[y.toNat]? = some z := get_some (by omega)
 refine callW_ms [.own, .ro] ?_
 simp
 refine callX_of hC (by simp) ?_
 simp [hz, a2]
 refine ⟨hy, exK_of (i1, h1, z) ⟨a1, List.mem_of_getElem? hz⟩ ?_⟩
 simp
theorem w67 (bs : List Int) (hb : bs.length ≤ 2^40) : ∃ h : Int, (True) ∧ Contract Try.prog true 67 [.ro] [.sl false 1 (bs.map uT)] [curT bs 0 h] [] := by
 refine mk_contractE [] Try.func67 (c := Try.f67.body.get!) (by kernel_rfl) k67 r67 (of_decide_eq_true rfl) ?_
 unfold c67; unfold curT; simp
 obtain ⟨N, hN⟩ : ∃ N, N = min bs.length 4000 := ⟨_, rfl⟩
 refine twp_for N (fun j s => ∃ h : Int, s.t 0 = .sl false 1 (bs.map uT) ∧ s.t 3 = .i .i64 h ∧ s.t 4 = .i .i64 j ∧ s.H = lk [(1, [])]) [] (by simp) ?_ ?_
 ·simp
 ·rintro j s hj ⟨h, q0, q3, q4, qH⟩
  rw [nf_of qH]
  simp [q0, q3, q4]
  have hw : IntKind.i64.wrap ((j : Int) + 1) = j + 1 := wrap_id (by omega) (by omega)
  cases hb1 : decide (j < bs.length)
  ·have hge := of_decide_eq_false hb1
   simp [q0, q3, q4, hb1]
   refine exK_of h trivial ?_
   simp
  ·have hlt := of_decide_eq_true hb1
   obtain ⟨b, hbb⟩ := get_some hlt
   simp [q0, q3, q4, hb1, hbb, hw]
   refine ⟨fun h4 => by omega, fun h4 => exK_of h trivial ?_⟩
   simp
end Go.Proofs.YtehmdblkkpdmoaaT


namespace Go.Proofs.YtehmdblkkpdmoaaT
set_option linter.unusedVariables false
set_option linter.unusedSimpArgs false
open Go
theorem EntsOkP.fl {g f : List Int} (h : EntsOkP g f) : f.length ≤ 2000 := by
 have := len_le_of_nodup _ f h.2.1.1 h.2.1.2
 have := h.2.2
 omega
theorem EntsOkP.nil {g : List Int} (h : ∀ x ∈ g, x = 0) (hl : g.length ≤ 2000) : EntsOkP g [] :=
 ⟨fun x hx => by rw [h x hx]; omega, ⟨by simp, List.nodup_nil⟩, hl⟩
theorem EntsOkP.set {g f : List Int} (h : EntsOkP g f) (k : Nat) {v : Int} (hv : 0 ≤ v ∧ v ≤ 1000000) : EntsOkP (g.set k v) f := by
 refine ⟨fun x hx => ?_, by simpa using h.2.1, by simpa using h.2.2⟩
 rcases List.mem_or_eq_of_mem_set hx with hx | rfl
 ·exact h.1 x hx
 ·exact hv
theorem EntsOkP.take {g f : List Int} (h : EntsOkP g f) (hn : ¬ (g.length = 2000 ∧ f = [])) :
  ∃ (g1 f1 : List Int) (x y : Int), takeP g f = ((g1, f1), (x, y), 0) ∧ EntsOkP g1 f1 ∧ 0 ≤ x ∧ x.toNat < g1.length := by
 have h3 := h.2.2
 rcases List.eq_nil_or_concat f with rfl | ⟨f0, x, rfl⟩
 ·refine ⟨g ++ [0], [], g.length, 0, ?_, ⟨?_, ⟨by simp, List.nodup_nil⟩, ?_⟩, by omega, by simp⟩
  ·simp only [takeP, if_pos, show ¬ 2000 ≤ g.length by simp at hn; omega, if_false]
  ·intro z hz
   rcases List.mem_append.1 hz with hz | hz
   ·exact h.1 z hz
   ·simp at hz; subst hz; omega
  ·simp at hn ⊢; omega
 ·rw [List.concat_eq_append] at h ⊢
  obtain ⟨h1, h2, h3⟩ := freeOk_snoc.1 h.2.1
  obtain ⟨y, hy⟩ : ∃ y, g[x.toNat]? = some y := get_some (by omega)
  exact ⟨g, f0, x, y, takeP_snoc g f0 x y hy, ⟨h.1, h1, h.2.2⟩, h2.1, by omega⟩
theorem EntsOkP.give {g f : List Int} {x y : Int} (h : EntsOkP g f) (hl : liveP g f x y) : EntsOkP (giveG g x y) (f ++ [x]) := by
 have hy := h.1 y (List.mem_of_getElem? hl.2.1)
 have h2 : EntsOkP (giveG g x y) f := by
  unfold giveG
  refine h.set _ ?_
  split <;> omega
 refine ⟨h2.1, freeOk_snoc.2 ⟨h2.2.1, ⟨hl.1.1, ?_⟩, hl.2.2⟩, h2.2.2⟩
 rw [giveG_len]
 have := hl.1.2
 omega
end Go.Proofs.YtehmdblkkpdmoaaT


namespace Go.Proofs.YtehmdblkkpdmoaaT
set_option linter.unusedVariables false
set_option linter.unusedSimpArgs false
open Go
def c133 : TCode := (.seq (.ops [⟨(some 3), 5, .box 4 (.t 0), none, []⟩, ⟨(some 4), 6, .box 2 (.t 1), none, []⟩, ⟨(some 6), 8, .box 4 (.c (.ag [(.sl true 1 []), (.sl true 1 []), (.sl true 3 []), (.sl true 4 [])])), none, []⟩, ⟨(some 7), 9, .mv (.c (.i .i64 0)), none, []⟩])
 (.seq (.seq (.ops [⟨(some 13), 15, .faddr 0 2 (.t 3), none, []⟩, ⟨(some 14), 16, .load true 2 (.t 13), none, []⟩, ⟨(some 15), 17, .load true 2 (.t 4), none, []⟩, ⟨(some 16), 18, .call 53 [((.t 14), 0), ((.t 15), 0)], none, []⟩, ⟨(some 17), 19, .un .not (.t 16), none, []⟩])
 (.cond (.t 17)
 (.seq (.ops [⟨(some 18), 20, .load true 4 (.t 3), none, []⟩, ⟨none, 1002001, .store 4 (.t 6) (.t 18), none, []⟩, ⟨(some 7), 9, .mv (.c (.i .i64 2)), none, []⟩])
 .ret)
 .skip))
 (.seq (.ops [⟨(some 20), 22, .load true 4 (.t 3), none, []⟩, ⟨(some 21), 23, .load true 2 (.t 4), none, []⟩, ⟨(some 22), 24, .call 54 [((.t 20), 0), ((.t 21), 0)], none, []⟩, ⟨(some 19), 21, .mv (.t 22), none, []⟩, ⟨(some 23), 25, .ext 0 (.t 19), none, []⟩, ⟨(some 24), 26, .ext 1 (.t 19), none, []⟩, ⟨(some 8), 10, .mv (.t 23), none, []⟩, ⟨(some 9), 11, .mv (.t 24), none, []⟩])
 (.seq (.ops [⟨(some 25), 27, .faddr 2 1 (.t 3), none, []⟩, ⟨(some 26), 28, .load false 1 (.t 25), none, []⟩, ⟨(some 27), 29, .mv (.t 8), none, []⟩, ⟨(some 28), 30, .iaddr 3 (.t 26) (.t 27), none, []⟩, ⟨(some 29), 31, .faddr 0 1 (.t 28), none, []⟩, ⟨(some 30), 32, .load false 1 (.t 29), none, []⟩, ⟨(some 31), 33, .mv (.t 2), none, []⟩, ⟨(some 32), 34, .call 55 [((.t 30), 0), ((.t 31), 0)], none, []⟩, ⟨(some 10), 12, .mv (.t 32), none, []⟩])
 (.seq (.seq (.ops [⟨(some 33), 35, .mv (.t 10), none, []⟩, ⟨(some 34), 36, .bin .lss (.t 33) (.c (.i .i64 0)), none, []⟩])
 (.cond (.t 34)
 (.seq (.ops [⟨(some 35), 37, .load true 4 (.t 3), none, []⟩, ⟨none, 1006001, .store 4 (.t 6) (.t 35), none, []⟩, ⟨(some 7), 9, .mv (.c (.i .i64 4)), none, []⟩])
 .ret)
 .skip))
 (.seq (.ops [⟨(some 36), 38, .load true 4 (.t 3), none, []⟩, ⟨(some 37), 39, .mv (.t 8), none, []⟩, ⟨(some 38), 40, .mv (.t 9), none, []⟩, ⟨(some 39), 41, .call 144 [((.t 36), 0), ((.t 37), 0), ((.t 38), 0)], none, []⟩, ⟨(some 11), 13, .mv (.t 39), none, []⟩])
 (.seq (.draw [⟨(some 40), 42, .bslice 5 0 [(.i .i64 0), (.i .i64 0), (.i .i64 0), (.f 0), (.f 0)] [], none, []⟩, ⟨(some 41), 43, .mv (.t 11), none, [0]⟩, ⟨(some 42), 44, .mv (.t 10), none, [0]⟩, ⟨(some 43), 45, .slice false 5 (.t 41) none (some (.t 42)), none, [0]⟩, ⟨(some 44), 46, .app 5 40 (.t 40) (.t 43), none, []⟩, ⟨(some 45), 47, .mv (.t 11), none, [0, 4]⟩, ⟨(some 46), 48, .mv (.t 10), none, [0, 4]⟩, ⟨(some 47), 49, .bin .add (.t 46) (.c (.i .i64 1)), none, [0, 4]⟩, ⟨(some 48), 50, .slice false 5 (.t 45) (some (.t 47)) none, none, [0, 4]⟩, ⟨(some 49), 51, .app 5 40 (.t 44) (.t 48), none, []⟩, ⟨(some 12), 14, .mv (.t 49), none, []⟩])
 (.seq (.ops [⟨(some 50), 52, .load true 4 (.t 3), none, []⟩, ⟨(some 51), 53, .mv (.t 8), none, []⟩, ⟨(some 52), 54, .mv (.t 9), none, []⟩, ⟨(some 53), 55, .mv (.t 12), none, []⟩, ⟨(some 54), 56, .call 145 [((.t 50), 0), ((.t 51), 0), ((.t 52), 0), ((.t 53), 0)], none, []⟩, ⟨(some 55), 57, .ext 0 (.t 54), none, []⟩, ⟨(some 56), 58, .ext 1 (.t 54), none, []⟩, ⟨none, 1009007, .store 4 (.t 6) (.t 55), none, []⟩, ⟨(some 7), 9, .mv (.t 56), none, []⟩])
 .ret))))))))
theorem k133 : compCode Try.prog Try.f133.ntmps Try.f133.body.get! = some c133 := by kernel_rfl
theorem r133 : resTmps Try.prog Try.f133.results.toList = some [.cell 6 true 4, .tmp 7] := by kernel_rfl
def dropTs (ts : List TableP) (i k : Nat) (t : TableP) (e : Int × Int) (c : Int) : List TableP × Int :=
 if 0 ≤ idxF t.1 c then (if fullT ts (colsOf ((rowL t k).eraseIdx (idxF t.1 c).toNat)) then (ts, 3) else (moveTs ts i k e ((rowL t k).eraseIdx (idxF t.1 c).toNat), 0)) else (ts, 4)
theorem erase_len {M : List CellP} {m : Nat} (h : m < M.length) : (M.eraseIdx m).length + 1 = M.length := by
 rw [List.length_eraseIdx, if_pos h]; omega
theorem sl_take (M : List CellP) (a : Nat) : List.take a (List.drop (offE 0 a) (M.map clT)) = (M.take a).map clT := by
 unfold offE
 split
 ·rename_i h; subst h; simp
 ·simp [List.map_take]
theorem sl_drop (M : List CellP) (a n : Nat) (hn : n = M.length - a) : List.take n (List.drop (offE a n) (M.map clT)) = (M.drop a).map clT := by
 unfold offE
 split
 ·rename_i h
  rw [h, List.take_zero, List.drop_eq_nil_of_le (by omega)]; rfl
 ·rw [List.take_of_length_le (by simp; omega), List.map_drop]
set_option maxHeartbeats 4000000 in
set_option maxRecDepth 100000 in
theorem w133 (g f : List Int) (ts : List TableP) (rs : List ValP) (i k : Nat) (t : TableP) (e : Int × Int) (c : Int) (hg : g.length ≤ 2^36) (hf : f.length ≤ 2^36) (hrs : rs.length ≤ 2^36) (E : EvenP ts) (P : AtP ts i k t e) (hlv : liveP g f e.1 e.2) : Contract Try.prog false 133 [.own, .ro, .ro] [worldO g f ts rs, .ag (eT e), .i .i64 c] [worldO g f (dropTs ts i k t e c).1 rs, .i .i64 (dropTs ts i k t e c).2] [none, none, none, none] := by
 refine mk_contract [none, none, none, none] Try.func133 (c := Try.f133.body.get!) (by kernel_rfl) k133 r133 (of_decide_eq_true rfl) fun _ => ?_
 have hok : okW (g, f, ts, rs) := ⟨hg, hf, ⟨by have := E.n; simp only; omega, E.okT⟩, hrs⟩
 have hW := w54 (g, f, ts, rs) e hok
 simp only [P.hw] at hW
 have hlive := (w53 g f e.1 e.2 (by omega) (by omega)).t hlv
 simp only [entsR, entT] at hlive
 have ht := P.ht
 have hm := List.mem_of_getElem? ht
 have hil := (List.getElem?_eq_some_iff.1 ht).1
 have hkl : k < t.2.1.length := (List.getElem?_eq_some_iff.1 P.he).1
 have hn := E.n
 have hA := w55 t.1 c (by have := E.c t hm; omega)
 have hidx := idx_lt (l := t.1) (x := c)
 have hR := w144 g f ts rs i k t (by omega) ht (by have := E.c t hm; omega) (E.s t hm) (E.v t hm) hkl
 have hrl := rowL_len (k := k) (E.s t hm)
 have hc30 := E.c t hm
 unfold dropTs
 generalize hix : idxF t.1 c = ix at *
 obtain ⟨M, hM⟩ : ∃ M, M = rowL t k := ⟨_, rfl⟩
 rw [← hM] at hR hrl ⊢
 by_cases hx0 : 0 ≤ ix
 ·rw [if_pos hx0]
  have hixM : ix.toNat < M.length := by have := hidx hx0; omega
  have hLl := erase_len hixM
  have hLe : M.eraseIdx ix.toNat = M.take ix.toNat ++ M.drop (ix.toNat + 1) := List.eraseIdx_eq_take_drop_succ ..
  obtain ⟨L, hL⟩ : ∃ L, L = M.eraseIdx ix.toNat := ⟨_, rfl⟩
  rw [← hL] at hLl hLe ⊢
  obtain ⟨TS, hTS⟩ : ∃ TS : List TableP × Int, TS = if fullT ts (colsOf L) then (ts, 3) else (moveTs ts i k e L, 0) := ⟨_, rfl⟩
  rw [← hTS]
  have hMv : Contract Try.prog false 145 [.own, .ro, .ro, .ro] [worldO g f ts rs, .i .i64 i, .i .i64 k, .sl false 5 (L.map clT)] [worldO g f TS.1 rs, .i .i64 TS.2] [none, none, none, none] := by
   rw [hTS]
   by_cases hfu : fullT ts (colsOf L)
   ·rw [if_pos hfu]
    exact W145f g f ts rs i k L (fun t ht => by have := E.c t ht; omega) hn (by omega) hfu
   ·rw [if_neg hfu]
    refine w145 g f ts rs i k L t e (fun t ht => by have := E.c t ht; omega) hn (by omega) hfu ht P.he ?_ E.r E.s E.v
    intro h
    have := congrArg List.length h
    simp [colsOf] at this
    omega
  obtain ⟨X, hX⟩ : ∃ X, X = M.take ix.toNat := ⟨_, rfl⟩
  obtain ⟨Y, hY⟩ : ∃ Y, Y = M.drop (ix.toNat + 1) := ⟨_, rfl⟩
  have hXl : X.length = ix.toNat := by rw [hX]; simp; omega
  have hYl : Y.length = M.length - (ix.toNat + 1) := by rw [hY]; simp
  have hS1 := sl_take M ix.toNat
  have hS2 := sl_drop M (ix.toNat + 1) (M.length - (ix.toNat + 1)) rfl
  rw [← hX] at hS1 hLe
  rw [← hY] at hS2 hLe
  have hw1 : IntKind.i64.wrap (ix + 1) = ix + 1 := wrap_id (by omega) (by omega)
  have hw2 : (ix + 1).toNat = ix.toNat + 1 := by omega
  unfold c133; simp
  refine callW_ms [.ro, .ro] ?_
  simp
  refine callX_of hlive (by simp) ?_
  simp
  refine callW_ms [.ro, .ro] ?_
  simp
  refine callX_of hW (by simp) ?_
  simp [ht]
  refine ⟨hil, ?_⟩
  refine callW_ms [.ro, .ro] ?_
  simp [ht]
  refine callX_of hA (by simp) ?_
  simp [ht, hx0]
  refine ⟨fun h => absurd h (by omega), ?_⟩
  refine callW_ms [.ro, .ro, .ro] ?_
  simp
  refine callX_of hR (by simp) ?_
  simp [hw1, hw2, hS1, hXl, hYl, hS2]
  refine ⟨hx0, by omega, ?_⟩
  refine ⟨by omega, by omega, by omega, by omega, ?_⟩
  have eL : List.map clT X ++ List.map clT Y = L.map clT := by rw [hLe]; simp
  have eN : ix.toNat + (M.length - (ix.toNat + 1)) = L.length := by omega
  rw [eL, eN]
  refine callW_ms [.own, .ro, .ro, .ro] ?_
  simp
  refine callX_of hMv (by simp) ?_
  simp
 ·rw [if_neg hx0]
  unfold c133; simp
  refine callW_ms [.ro, .ro] ?_
  simp
  refine callX_of hlive (by simp) ?_
  simp
  refine callW_ms [.ro, .ro] ?_
  simp
  refine callX_of hW (by simp) ?_
  simp [ht]
  refine ⟨hil, ?_⟩
  refine callW_ms [.ro, .ro] ?_
  simp [ht]
  refine callX_of hA (by simp) ?_
  simp [ht, hx0]
end Go.Proofs.YtehmdblkkpdmoaaT


namespace Go.Proofs.YtehmdblkkpdmoaaT
set_option linter.unusedVariables false
set_option linter.unusedSimpArgs false
open Go
def vOkV (l : List ValP) : Prop := ∀ x ∈ l, valOkF x
structure TOk (n : Nat) (t : TableP) : Prop where
 c : t.1.length ≤ 20 + n
 r : t.2.1.length ≤ n
 s : t.2.2.length = t.1.length
 v : ∀ v ∈ t.2.2, v.length = t.2.1.length
 f : ∀ v ∈ t.2.2, vOkV v
structure TsP (n : Nat) (ts : List TableP) : Prop where
 m : ts.length ≤ 40
 t : ∀ t ∈ ts, TOk n t
def hasR (ts : List TableP) (e : Int × Int) : Prop := ∃ (i : Nat) (t : TableP), ts[i]? = some t ∧ e ∈ t.2.1
structure WkP (n : Nat) (w : WorldP) : Prop where
 e : EntsOkP w.1 w.2.1
 t : TsP n w.2.2.1
 l : ∀ x y, liveP w.1 w.2.1 x y → hasR w.2.2.1 (x, y)
 r : w.2.2.2.length ≤ 20 ∧ vOkV w.2.2.2
theorem TOk.mono {n m : Nat} {t : TableP} (h : TOk n t) (hm : n ≤ m) : TOk m t := ⟨by have := h.c; omega, by have := h.r; omega, h.s, h.v, h.f⟩
theorem TsP.mono {n m : Nat} {ts : List TableP} (h : TsP n ts) (hm : n ≤ m) : TsP m ts := ⟨h.m, fun t ht => (h.t t ht).mono hm⟩
theorem WkP.mono {n m : Nat} {w : WorldP} (h : WkP n w) (hm : n ≤ m) : WkP m w := ⟨h.e, h.t.mono hm, h.l, h.r⟩
theorem TsP.even {n : Nat} {ts : List TableP} (h : TsP n ts) (hn : n ≤ 1000) : EvenP ts :=
 ⟨by have := h.m; omega, fun t ht => by have := (h.t t ht).c; omega, fun t ht => by have := (h.t t ht).r; omega, fun t ht => (h.t t ht).s, fun t ht => (h.t t ht).v⟩
theorem leave_sub {α : Type} {l : List α} {k : Nat} {y : α} (h : y ∈ leaveL l k) : y ∈ l := by
 unfold leaveL at h
 split at h
 ·rename_i z hz
  rcases List.mem_or_eq_of_mem_set (List.mem_of_mem_take h) with h | rfl
  ·exact h
  ·exact List.mem_of_getElem? hz
 ·cases h
theorem leave_mem {α : Type} {l : List α} {k : Nat} {e x : α} (hk : l[k]? = some e) (hx : x ∈ l) (hne : x ≠ e) : x ∈ leaveL l k := by
 obtain ⟨i, hi⟩ := List.mem_iff_getElem?.1 hx
 have hil := (List.getElem?_eq_some_iff.1 hi).1
 have hkl := (List.getElem?_eq_some_iff.1 hk).1
 have hik : i ≠ k := by
  rintro rfl
  rw [hk] at hi; cases hi; exact hne rfl
 obtain ⟨z, hz⟩ : ∃ z, l[l.length - 1]? = some z := get_some (by omega)
 rw [leaveL_some hz]
 by_cases hl : i < l.length - 1
 ·refine List.mem_of_getElem? (i := i) ?_
  rw [List.getElem?_take_of_lt hl, List.getElem?_set_ne (Ne.symm hik)]
  exact hi
 ·have : i = l.length - 1 := by omega
  subst this
  rw [hz] at hi; cases hi
  refine List.mem_of_getElem? (i := k) ?_
  rw [List.getElem?_take_of_lt (by omega), List.getElem?_set_self hkl]
theorem TOk.leave {n k : Nat} {t : TableP} (h : TOk n t) (hk : k < t.2.1.length) : TOk n (leaveT t k) := by
 have hr := leaveL_len (l := t.2.1) (k := k) (by omega)
 refine ⟨h.c, ?_, by simp only [leaveT, List.length_map]; exact h.s, fun v hv => ?_, fun v hv => ?_⟩
 ·have := h.r
  simp only [leaveT]; omega
 ·simp only [leaveT] at hv ⊢
  obtain ⟨u, hu, rfl⟩ := List.mem_map.1 hv
  have hl := h.v u hu
  rw [leaveL_len (by omega), hr, hl]
 ·simp only [leaveT] at hv
  obtain ⟨u, hu, rfl⟩ := List.mem_map.1 hv
  exact fun x hx => h.f u hu x (leave_sub hx)
theorem zip_mem {C : List (List ValP)} {L : List CellP} {v : List ValP} (h : v ∈ List.zipWith (fun vs x => vs ++ [x.2]) C L) : ∃ u x, u ∈ C ∧ x ∈ L ∧ v = u ++ [x.2] := by
 obtain ⟨i, hi⟩ := List.mem_iff_getElem?.1 h
 rw [List.getElem?_zipWith] at hi
 cases h1 : C[i]? with
 | none => simp [h1] at hi
 | some u =>
  cases h2 : L[i]? with
  | none => simp [h1, h2] at hi
  | some x =>
   simp [h1, h2] at hi
   exact ⟨u, x, List.mem_of_getElem? h1, List.mem_of_getElem? h2, hi.symm⟩
theorem TOk.join {n : Nat} {t : TableP} {e : Int × Int} {L : List CellP} (h : TOk n t) (hL : t.1 = colsOf L) (hv : vOkL L) : TOk (n + 1) (joinT t e L) := by
 have hl : t.1.length = L.length := by rw [hL]; simp [colsOf]
 refine ⟨by have := h.c; simp only [joinT]; omega, by have := h.r; simp [joinT]; omega, ?_, fun v hvm => ?_, fun v hvm => ?_⟩
 ·simp only [joinT, List.length_zipWith]
  rw [h.s, hl]; omega
 ·obtain ⟨u, x, hu, hx, rfl⟩ := zip_mem hvm
  simp [joinT, h.v u hu]
 ·obtain ⟨u, x, hu, hx, rfl⟩ := zip_mem hvm
  intro y hy
  rcases List.mem_append.1 hy with hy | hy
  ·exact h.f u hu y hy
  ·rw [List.mem_singleton.1 hy]; exact hv x hx
theorem mem_mod {α : Type} {l : List α} {i : Nat} {f : α → α} {x : α} (h : x ∈ l.modify i f) : x ∈ l ∨ ∃ y, l[i]? = some y ∧ x = f y := by
 obtain ⟨j, hj⟩ := List.mem_iff_getElem?.1 h
 rw [List.getElem?_modify] at hj
 obtain ⟨y, hy, rfl⟩ := Option.map_eq_some_iff.1 hj
 split
 ·rename_i he; subst he; exact .inr ⟨y, hy, rfl⟩
 ·exact .inl (List.mem_of_getElem? hy)
theorem TsP.mod {n m i : Nat} {ts : List TableP} {f : TableP → TableP} (h : TsP n ts) (hm : n ≤ m) (hf : ∀ t, ts[i]? = some t → TOk m (f t)) : TsP m (ts.modify i f) :=
 ⟨by rw [List.length_modify]; exact h.m, fun t ht => by
  rcases mem_mod ht with ht | ⟨y, hy, rfl⟩
  ·exact (h.t t ht).mono hm
  ·exact hf y hy⟩
theorem newT_ok {n : Nat} {cols : List Int} (h : cols.length ≤ 20 + n) : TOk n (newT cols) :=
 ⟨h, by simp [newT], by simp [newT], fun v hv => by simp [newT] at hv; rw [hv.2]; simp [newT], fun v hv => by simp [newT] at hv; rw [hv.2]; intro x hx; cases hx⟩
theorem TsP.tab {n : Nat} {ts : List TableP} {cols : List Int} (h : TsP n ts) (hf : ¬ fullT ts cols) (hc : cols.length ≤ 20 + n) :
  TsP n (tabW ts cols).1 ∧ (∃ T2, (tabW ts cols).1[(tabW ts cols).2]? = some T2 ∧ T2.1 = cols) ∧ ∀ (i : Nat) (t : TableP), ts[i]? = some t → (tabW ts cols).1[i]? = some t := by
 unfold tabW
 by_cases hix : 0 ≤ tabIx ts cols
 ·rw [if_pos hix]
  obtain ⟨j, T2, h1, h2, h3⟩ := tabIx_at hix
  refine ⟨h, ⟨T2, ?_, h3⟩, fun i t ht => ht⟩
  rw [h1]; exact h2
 ·rw [if_neg hix]
  have hl : ts.length < 40 := by
   unfold fullT at hf
   have := h.m
   rcases Nat.lt_or_ge ts.length 40 with h | h
   ·exact h
   ·exact absurd ⟨hix, h⟩ hf
  refine ⟨⟨by simp; omega, fun t ht => ?_⟩, ⟨newT cols, by simp, rfl⟩, fun i t ht => ?_⟩
  ·rcases List.mem_append.1 ht with ht | ht
   ·exact h.t t ht
   ·rw [List.mem_singleton.1 ht]; exact newT_ok hc
  ·rw [List.getElem?_append_left (List.getElem?_eq_some_iff.1 ht).1]; exact ht
theorem hasR.ext {ts ts' : List TableP} {e : Int × Int} (h : hasR ts e) (hs : ∀ (i : Nat) (t : TableP), ts[i]? = some t → ts'[i]? = some t) : hasR ts' e := by
 obtain ⟨i, t, h1, h2⟩ := h
 exact ⟨i, t, hs i t h1, h2⟩
theorem hasR.join {ts : List TableP} {e x : Int × Int} {j : Nat} {L : List CellP} (h : hasR ts x) : hasR (ts.modify j fun t => joinT t e L) x := by
 obtain ⟨i, t, h1, h2⟩ := h
 refine ⟨i, if j = i then joinT t e L else t, ?_, ?_⟩
 ·rw [List.getElem?_modify, h1]
  by_cases hj : j = i <;> simp [hj]
 ·split
  ·simp [joinT, h2]
  ·exact h2
theorem hasR.new {ts : List TableP} {e : Int × Int} {j : Nat} {t : TableP} {L : List CellP} (h : ts[j]? = some t) : hasR (ts.modify j fun t => joinT t e L) e :=
 ⟨j, joinT t e L, by rw [List.getElem?_modify, h]; simp, by simp [joinT]⟩
theorem hasR.leave {ts : List TableP} {e x : Int × Int} {i k : Nat} {t : TableP} (ht : ts[i]? = some t) (he : t.2.1[k]? = some e) (h : hasR ts x) (hne : x ≠ e) : hasR (leaveAt ts i k) x := by
 obtain ⟨j, t', h1, h2⟩ := h
 by_cases hj : i = j
 ·subst hj
  rw [ht] at h1; cases h1
  exact ⟨i, leaveT t k, by unfold leaveAt; rw [List.getElem?_modify, ht]; simp, leave_mem he h2 hne⟩
 ·exact ⟨j, t', by unfold leaveAt; rw [List.getElem?_modify, h1]; simp [hj], h2⟩
theorem live_take {g f : List Int} {x y : Int} (hx : ∀ z ∈ f, 0 ≤ z ∧ z < g.length) (h : liveP (takeP g f).1.1 (takeP g f).1.2 x y) : liveP g f x y ∨ (x, y) = (takeP g f).2.1 := by
 rcases List.eq_nil_or_concat f with rfl | ⟨f0, z, rfl⟩
 ·unfold takeP at h ⊢
  simp only [if_true] at h ⊢
  by_cases hl : 2000 ≤ g.length
  ·rw [if_pos hl] at h; exact .inl h
  ·rw [if_neg hl] at h ⊢
   simp only at h ⊢
   obtain ⟨⟨h1, h2⟩, h3, h4⟩ := h
   simp only [List.length_append, List.length_singleton] at h2
   by_cases hxg : x.toNat < g.length
   ·refine .inl ⟨⟨h1, by omega⟩, ?_, h4⟩
    rwa [List.getElem?_append_left hxg] at h3
   ·have : x.toNat = g.length := by omega
    rw [this] at h3
    simp at h3
    refine .inr ?_
    rw [Prod.mk.injEq]
    exact ⟨by omega, h3.symm⟩
 ·simp only [List.concat_eq_append] at hx h ⊢
  obtain ⟨a1, a2⟩ := hx z (by simp)
  obtain ⟨y', hy'⟩ : ∃ y', g[z.toNat]? = some y' := get_some (by omega)
  rw [takeP_snoc g f0 z y' hy'] at h ⊢
  simp only at h ⊢
  obtain ⟨h1, h3, h4⟩ := h
  by_cases hz : x = z
  ·subst hz
   rw [hy'] at h3; cases h3
   exact .inr rfl
  ·refine .inl ⟨h1, h3, fun hm => ?_⟩
   rcases List.mem_append.1 hm with hm | hm
   ·exact h4 hm
   ·exact hz (List.mem_singleton.1 hm)
theorem live_give {g f : List Int} {a b x y : Int} (ha : 0 ≤ a) (h : liveP (giveG g a b) (f ++ [a]) x y) : liveP g f x y ∧ x ≠ a := by
 obtain ⟨⟨h1, h2⟩, h3, h4⟩ := h
 have hxa : x ≠ a := fun e => h4 (by simp [e])
 refine ⟨⟨⟨h1, by simpa using h2⟩, ?_, fun hm => h4 (by simp [hm])⟩, hxa⟩
 unfold giveG at h3
 rwa [List.getElem?_set_ne (by omega)] at h3
theorem flatR_of {ts : List TableP} {e : Int × Int} (h : hasR ts e) : e ∈ flatR ts := by
 obtain ⟨i, t, h1, h2⟩ := h
 induction ts generalizing i with
 | nil => simp at h1
 | cons t' ts ih =>
  cases i with
  | zero =>
   simp at h1; subst h1
   simp [flatR, h2]
  | succ i =>
   have := ih i (by simpa using h1)
   simp only [flatR] at this ⊢
   simp [this]
theorem WkP.at {n : Nat} {w : WorldP} {e : Int × Int} (h : WkP n w) (hl : liveP w.1 w.2.1 e.1 e.2) : ∃ (i k : Nat) (t : TableP), AtP w.2.2.1 i k t e := by
 obtain ⟨j, k, t, hj, hk, hwj⟩ := where_row 0 (flatR_of (h.l e.1 e.2 hl))
 rw [Nat.zero_add] at hwj
 exact ⟨j, k, t, hj, hk, hwj⟩
theorem WkP.fx {n : Nat} {w : WorldP} (h : WkP n w) : ∀ x ∈ w.2.1, 0 ≤ x ∧ x < w.1.length := fun x hx => h.e.2.1.1 x hx
theorem WkP.spawn {n : Nat} {g f : List Int} {ts : List TableP} {rs : List ValP} {L : List CellP} (h : WkP n (g, f, ts, rs)) (hL : L.length ≤ 8) (hv : vOkL L) : WkP (n + 1) ((spawnP g f ts L).1.1, (spawnP g f ts L).1.2.1, (spawnP g f ts L).1.2.2, rs) := by
 unfold spawnP
 split
 ·rename_i hc
  obtain ⟨h0, hf⟩ := hc
  have hn : ¬ (g.length = 2000 ∧ f = []) := by
   rintro ⟨h1, rfl⟩
   simp [takeP, h1] at h0
  obtain ⟨t1, ⟨T2, t2, t3⟩, t4⟩ := h.t.tab hf (by simp [colsOf]; omega)
  obtain ⟨g1, f1, x1, y1, hT, hE, _, _⟩ := h.e.take hn
  refine ⟨by simp only at hT; rw [hT]; exact hE, ?_, fun x y hl => ?_, h.r⟩
  ·refine t1.mod (by omega) fun t ht => ?_
   rw [t2] at ht; cases ht
   exact (t1.t T2 (List.mem_of_getElem? t2)).join t3 hv
  ·rcases live_take h.fx hl with hl | he
   ·exact ((h.l x y hl).ext t4).join
   ·rw [he]
    exact hasR.new t2
 ·exact h.mono (by omega)
theorem TsP.leave {n i k : Nat} {ts : List TableP} {t : TableP} (h : TsP n ts) (ht : ts[i]? = some t) (hk : k < t.2.1.length) : TsP n (leaveAt ts i k) :=
 h.mod (Nat.le_refl _) fun t' ht' => by
  rw [ht] at ht'; cases ht'
  exact (h.t t (List.mem_of_getElem? ht)).leave hk
theorem WkP.kill {n : Nat} {g f : List Int} {ts : List TableP} {rs : List ValP} {i k : Nat} {t : TableP} {e : Int × Int} (h : WkP n (g, f, ts, rs)) (P : AtP ts i k t e) (hl : liveP g f e.1 e.2) : WkP n (giveG g e.1 e.2, f ++ [e.1], leaveAt ts i k, rs) := by
 have hk := (List.getElem?_eq_some_iff.1 P.he).1
 refine ⟨h.e.give hl, h.t.leave P.ht hk, fun x y hlx => ?_, h.r⟩
 obtain ⟨h1, h2⟩ := live_give hl.1.1 hlx
 exact hasR.leave P.ht P.he (h.l x y h1) fun he => h2 (congrArg Prod.fst he)
theorem WkP.move {n : Nat} {g f : List Int} {ts : List TableP} {rs : List ValP} {i k : Nat} {t : TableP} {e : Int × Int} {L : List CellP} (h : WkP n (g, f, ts, rs)) (P : AtP ts i k t e) (hf : ¬ fullT ts (colsOf L)) (hne : t.1 ≠ colsOf L) (hL : L.length ≤ 20 + n) (hv : vOkL L) : WkP (n + 1) (g, f, moveTs ts i k e L, rs) := by
 have hk := (List.getElem?_eq_some_iff.1 P.he).1
 obtain ⟨t1, ⟨T2, t2, t3⟩, t4⟩ := h.t.tab hf (by simp [colsOf]; omega)
 have hij : (tabW ts (colsOf L)).2 ≠ i := by
  rintro hh
  rw [hh, t4 i t P.ht] at t2
  cases t2
  exact hne t3
 have hti : ((tabW ts (colsOf L)).1.modify (tabW ts (colsOf L)).2 fun t => joinT t e L)[i]? = some t := by
  rw [List.getElem?_modify, t4 i t P.ht]
  simp [hij]
 have hJ : TsP (n + 1) ((tabW ts (colsOf L)).1.modify (tabW ts (colsOf L)).2 fun t => joinT t e L) := t1.mod (by omega) fun t ht => by
  rw [t2] at ht; cases ht
  exact (t1.t T2 (List.mem_of_getElem? t2)).join t3 hv
 refine ⟨h.e, hJ.leave hti hk, fun x y hl => ?_, h.r⟩
 by_cases hxe : (x, y) = e
 ·rw [hxe]
  refine ⟨(tabW ts (colsOf L)).2, joinT T2 e L, ?_, by simp [joinT]⟩
  unfold moveTs leaveAt
  rw [List.getElem?_modify, List.getElem?_modify, t2]
  simp [Ne.symm hij]
 ·exact hasR.leave hti P.he (((h.l x y hl).ext t4).join) hxe
theorem fOk_z : fOk 0 := ⟨0, by decide, by decide +kernel⟩
theorem row_ok {n k : Nat} {t : TableP} (h : TOk n t) : vOkL (rowL t k) := by
 intro y hy
 obtain ⟨i, hi⟩ := List.mem_iff_getElem?.1 hy
 simp only [rowL, List.getElem?_zipWith] at hi
 cases h1 : t.1[i]? with
 | none => simp [h1] at hi
 | some x =>
  cases h2 : t.2.2[i]? with
  | none => simp [h1, h2] at hi
  | some vs =>
   simp [h1, h2] at hi
   subst hi
   simp only
   cases h3 : vs[k]? with
   | none => exact ⟨fOk_z, fOk_z⟩
   | some v => exact h.f vs (List.mem_of_getElem? h2) v (List.mem_of_getElem? h3)
theorem insC_mem {c y : CellP} : ∀ {M : List CellP}, y ∈ insC c M → y = c ∨ y ∈ M
 | [], h => by simp [insC] at h; exact .inl h
 | x :: M, h => by
  simp only [insC] at h
  split at h
  ·rcases List.mem_cons.1 h with h | h
   ·exact .inl h
   ·exact .inr h
  ·rcases List.mem_cons.1 h with h | h
   ·exact .inr (by simp [h])
   ·rcases insC_mem h with h | h
    ·exact .inl h
    ·exact .inr (by simp [h])
theorem WkP.put {n : Nat} {g f : List Int} {ts : List TableP} {rs : List ValP} {i k : Nat} {t : TableP} {e : Int × Int} {c : CellP} (h : WkP n (g, f, ts, rs)) (P : AtP ts i k t e) (hc : valOkF c.2) : WkP (n + 2) (g, f, (putTs ts i k t e c).1, rs) := by
 have hm := List.mem_of_getElem? P.ht
 have hT := h.t.t t hm
 have hrl := rowL_len (k := k) hT.s
 unfold putTs
 split
 ·rename_i h0
  refine ⟨h.e, ?_, fun x y hl => ?_, h.r⟩
  ·unfold setTs
   refine h.t.mod (by omega) fun t' ht' => ?_
   rw [P.ht] at ht'; cases ht'
   refine ⟨by have := hT.c; simp only; omega, by have := hT.r; simp only; omega, by simp only [List.length_modify]; exact hT.s, fun v hv => ?_, fun v hv => ?_⟩
   ·rcases mem_mod hv with hv | ⟨u, hu, rfl⟩
    ·exact hT.v v hv
    ·rw [List.length_set]; exact hT.v u (List.mem_of_getElem? hu)
   ·rcases mem_mod hv with hv | ⟨u, hu, rfl⟩
    ·exact hT.f v hv
    ·intro y hy
     rcases List.mem_or_eq_of_mem_set hy with hy | rfl
     ·exact hT.f u (List.mem_of_getElem? hu) y hy
     ·exact hc
  ·obtain ⟨j, t', h1, h2⟩ := h.l x y hl
   refine ⟨j, if i = j then (t'.1, t'.2.1, t'.2.2.modify (idxF t.1 c.1).toNat fun vs => vs.set k c.2) else t', ?_, ?_⟩
   ·unfold setTs
    simp only at h1
    rw [List.getElem?_modify, h1]
    by_cases hj : i = j <;> simp [hj]
   ·split <;> exact h2
 ·split
  ·exact h.mono (by omega)
  ·rename_i hf
   have hlM := insC_len c (rowL t k)
   refine (h.mono (Nat.le_succ n)).move P hf (fun he => ?_) (by have := hT.c; omega) fun y hy => ?_
   ·have := congrArg List.length he
    simp [colsOf, hlM] at this
    omega
   ·rcases insC_mem hy with rfl | hy
    ·exact hc
    ·exact row_ok hT y hy
theorem WkP.drop {n : Nat} {g f : List Int} {ts : List TableP} {rs : List ValP} {i k : Nat} {t : TableP} {e : Int × Int} {c : Int} (h : WkP n (g, f, ts, rs)) (P : AtP ts i k t e) : WkP (n + 2) (g, f, (dropTs ts i k t e c).1, rs) := by
 have hm := List.mem_of_getElem? P.ht
 have hT := h.t.t t hm
 have hrl := rowL_len (k := k) hT.s
 unfold dropTs
 split
 ·rename_i h0
  split
  ·exact h.mono (by omega)
  ·rename_i hf
   have hi := idx_lt h0
   have hl := erase_len (M := rowL t k) (m := (idxF t.1 c).toNat) (by omega)
   refine (h.mono (Nat.le_succ n)).move P hf (fun he => ?_) (by have := hT.c; omega) fun y hy => row_ok hT y (List.mem_of_mem_eraseIdx hy)
   have := congrArg List.length he
   simp [colsOf] at this
   omega
 ·exact h.mono (by omega)
theorem WkP.tab {n : Nat} {g f : List Int} {ts : List TableP} {rs : List ValP} {cols : List Int} (h : WkP n (g, f, ts, rs)) (hf : ¬ fullT ts cols) (hc : cols.length ≤ 20 + n) : WkP n (g, f, (tabW ts cols).1, rs) := by
 obtain ⟨t1, _, t4⟩ := h.t.tab hf hc
 exact ⟨h.e, t1, fun x y hl => (h.l x y hl).ext t4, h.r⟩
end Go.Proofs.YtehmdblkkpdmoaaT


namespace Go.Proofs.YtehmdblkkpdmoaaT
set_option linter.unusedVariables false
set_option linter.unusedSimpArgs false
open Go
def c150 : TCode := (.seq (.ops [⟨(some 0), 2, .mv (.c (.f 0)), none, []⟩])
 (.seq (.ops [⟨(some 1), 3, .mv (.c (.f 0)), none, []⟩])
 (.seq (.ops [⟨(some 2), 4, .mv (.t 1), none, []⟩, ⟨(some 3), 5, .mv (.t 1), none, []⟩, ⟨(some 4), 6, .bin .quo (.t 2) (.t 3), none, []⟩, ⟨(some 0), 2, .mv (.t 4), none, []⟩])
 .ret)))
theorem k150 : compCode Try.prog Try.f150.ntmps Try.f150.body.get! = some c150 := by kernel_rfl
theorem r150 : resTmps Try.prog Try.f150.results.toList = some [.tmp 0] := by kernel_rfl
def c151 : TCode := (.seq (.ops [⟨(some 0), 2, .mv (.c (.f 0)), none, []⟩])
 (.seq (.ops [⟨(some 1), 3, .mv (.c (.f 0)), none, []⟩])
 (.seq (.ops [⟨(some 2), 4, .mv (.t 1), none, []⟩, ⟨(some 3), 5, .bin .quo (.c (.f 4607182418800017408)) (.t 2), none, []⟩, ⟨(some 0), 2, .mv (.t 3), none, []⟩])
 .ret)))
theorem k151 : compCode Try.prog Try.f151.ntmps Try.f151.body.get! = some c151 := by kernel_rfl
theorem r151 : resTmps Try.prog Try.f151.results.toList = some [.tmp 0] := by kernel_rfl
def c149 : TCode := (.seq (.ops [⟨(some 2), 4, .mv (.c (.f 0)), none, []⟩])
 (.seq (.seq (.ops [⟨(some 3), 5, .mv (.t 0), none, []⟩, ⟨(some 4), 6, .call 108 [((.t 3), 3), ((.c (.i .i64 12)), 0)], none, []⟩])
 (.block 0 (.seq (.ops [⟨(some 6), 8, .bin .eql (.t 4) (.c (.i .i64 0)), none, []⟩, ⟨(some 5), 7, .mv (.t 6), none, []⟩])
 (.cond (.t 5)
 (.seq (.ops [⟨(some 2), 4, .mv (.c (.f 0)), none, []⟩])
 .ret)
 (.seq (.ops [⟨(some 8), 10, .bin .eql (.t 4) (.c (.i .i64 1)), none, []⟩, ⟨(some 7), 9, .mv (.t 8), none, []⟩])
 (.cond (.t 7)
 (.seq (.ops [⟨(some 9), 11, .mv (.t 0), none, []⟩, ⟨(some 10), 12, .call 108 [((.t 9), 3), ((.c (.i .i64 4)), 0)], none, []⟩, ⟨(some 11), 13, .toF (.t 10), none, []⟩, ⟨(some 12), 14, .bin .mul (.c (.f 4598175219545276416)) (.t 11), none, []⟩, ⟨(some 13), 15, .un .neg (.t 12), none, []⟩, ⟨(some 2), 4, .mv (.t 13), none, []⟩])
 .ret)
 (.seq (.ops [⟨(some 15), 17, .bin .eql (.t 4) (.c (.i .i64 2)), none, []⟩, ⟨(some 14), 16, .mv (.t 15), none, []⟩])
 (.cond (.t 14)
 (.seq (.ops [⟨(some 2), 4, .mv (.c (.f 9094988921128908188)), none, []⟩])
 .ret)
 (.seq (.ops [⟨(some 17), 19, .bin .eql (.t 4) (.c (.i .i64 3)), none, []⟩, ⟨(some 16), 18, .mv (.t 17), none, []⟩])
 (.cond (.t 16)
 (.seq (.seq (.ops [⟨(some 18), 20, .mv (.t 0), none, []⟩, ⟨(some 19), 21, .call 105 [((.t 18), 3), ((.c (.i .i64 3)), 0)], none, []⟩])
 (.cond (.t 19)
 (.seq (.ops [⟨(some 20), 22, .call 150 [], none, []⟩, ⟨(some 2), 4, .mv (.t 20), none, []⟩])
 .ret)
 .skip))
 (.seq (.ops [⟨(some 2), 4, .mv (.c (.f 18438243695727462560)), none, []⟩])
 .ret))
 (.seq (.ops [⟨(some 22), 24, .bin .eql (.t 4) (.c (.i .i64 4)), none, []⟩, ⟨(some 21), 23, .mv (.t 22), none, []⟩])
 (.cond (.t 21)
 (.seq (.seq (.ops [⟨(some 23), 25, .mv (.t 0), none, []⟩, ⟨(some 24), 26, .call 105 [((.t 23), 3), ((.c (.i .i64 2)), 0)], none, []⟩])
 (.cond (.t 24)
 (.seq (.ops [⟨(some 25), 27, .call 151 [], none, []⟩, ⟨(some 2), 4, .mv (.t 25), none, []⟩])
 .ret)
 .skip))
 (.seq (.ops [⟨(some 2), 4, .mv (.c (.f 4591870180066957722)), none, []⟩])
 .ret))
 .skip))))))))))))
 (.seq (.ops [⟨(some 26), 28, .mv (.t 0), none, []⟩, ⟨(some 27), 29, .call 108 [((.t 26), 3), ((.c (.i .i64 4001)), 0)], none, []⟩, ⟨(some 28), 30, .bin .sub (.t 27) (.c (.i .i64 2000)), none, []⟩, ⟨(some 29), 31, .toF (.t 28), none, []⟩, ⟨(some 30), 32, .bin .quo (.t 29) (.c (.f 4620693217682128896)), none, []⟩, ⟨(some 2), 4, .mv (.t 30), none, []⟩])
 .ret)))
theorem k149 : compCode Try.prog Try.f149.ntmps Try.f149.body.get! = some c149 := by kernel_rfl
theorem r149 : resTmps Try.prog Try.f149.results.toList = some [.tmp 2] := by kernel_rfl
def c148 : TCode := (.seq (.ops [⟨(some 2), 4, .mv (.c (.i .i64 0)), none, []⟩])
 (.seq (.seq (.ops [⟨(some 3), 5, .mv (.t 0), none, []⟩, ⟨(some 4), 6, .call 108 [((.t 3), 3), ((.c (.i .i64 14)), 0)], none, []⟩])
 (.block 0 (.seq (.ops [⟨(some 6), 8, .bin .eql (.t 4) (.c (.i .i64 0)), none, []⟩, ⟨(some 5), 7, .mv (.t 6), none, []⟩])
 (.cond (.t 5)
 (.seq (.ops [⟨(some 2), 4, .mv (.c (.i .i64 (-9223372036854775808))), none, []⟩])
 .ret)
 (.seq (.ops [⟨(some 8), 10, .bin .eql (.t 4) (.c (.i .i64 1)), none, []⟩, ⟨(some 7), 9, .mv (.t 8), none, []⟩])
 (.cond (.t 7)
 (.seq (.ops [⟨(some 2), 4, .mv (.c (.i .i64 9223372036854775807)), none, []⟩])
 .ret)
 (.seq (.ops [⟨(some 10), 12, .bin .eql (.t 4) (.c (.i .i64 2)), none, []⟩, ⟨(some 9), 11, .mv (.t 10), none, []⟩])
 (.cond (.t 9)
 (.seq (.ops [⟨(some 2), 4, .mv (.c (.i .i64 0)), none, []⟩])
 .ret)
 (.seq (.ops [⟨(some 12), 14, .bin .eql (.t 4) (.c (.i .i64 3)), none, []⟩, ⟨(some 11), 13, .mv (.t 12), none, []⟩])
 (.cond (.t 11)
 (.seq (.ops [⟨(some 2), 4, .mv (.c (.i .i64 (-1))), none, []⟩])
 .ret)
 (.seq (.ops [⟨(some 14), 16, .bin .eql (.t 4) (.c (.i .i64 4)), none, []⟩, ⟨(some 13), 15, .mv (.t 14), none, []⟩])
 (.cond (.t 13)
 (.seq (.ops [⟨(some 15), 17, .mv (.t 0), none, []⟩, ⟨(some 16), 18, .call 108 [((.t 15), 3), ((.c (.i .i64 2000000000)), 0)], none, []⟩, ⟨(some 17), 19, .bin .mul (.t 16) (.c (.i .i64 3037000500)), none, []⟩, ⟨(some 2), 4, .mv (.t 17), none, []⟩])
 .ret)
 .skip))))))))))))
 (.seq (.ops [⟨(some 18), 20, .mv (.t 0), none, []⟩, ⟨(some 19), 21, .call 108 [((.t 18), 3), ((.c (.i .i64 41)), 0)], none, []⟩, ⟨(some 20), 22, .bin .sub (.t 19) (.c (.i .i64 12)), none, []⟩, ⟨(some 2), 4, .mv (.t 20), none, []⟩])
 .ret)))
theorem k148 : compCode Try.prog Try.f148.ntmps Try.f148.body.get! = some c148 := by kernel_rfl
theorem r148 : resTmps Try.prog Try.f148.results.toList = some [.tmp 2] := by kernel_rfl
def c137 : TCode := (.seq (.ops [⟨(some 4), 6, .mv (.c (.i .i64 0)), none, []⟩, ⟨(some 5), 7, .mv (.c (.f 0)), none, []⟩, ⟨(some 6), 8, .mv (.c (.f 0)), none, []⟩])
 (.seq (.seq (.ops [⟨(some 8), 10, .mv (.t 1), none, []⟩])
 (.block 0 (.seq (.ops [⟨(some 10), 12, .bin .eql (.t 8) (.c (.i .i64 1)), none, []⟩, ⟨(some 9), 11, .mv (.t 10), none, []⟩])
 (.cond (.t 9)
 (.seq (.ops [⟨(some 11), 13, .mv (.t 0), none, []⟩, ⟨(some 12), 14, .call 148 [((.t 11), 3)], none, []⟩, ⟨(some 4), 6, .mv (.t 12), none, []⟩, ⟨(some 5), 7, .mv (.c (.f 0)), none, []⟩, ⟨(some 6), 8, .mv (.c (.f 0)), none, []⟩])
 .ret)
 (.seq (.ops [⟨(some 14), 16, .bin .eql (.t 8) (.c (.i .i64 2)), none, []⟩, ⟨(some 13), 15, .mv (.t 14), none, []⟩])
 (.cond (.t 13)
 (.seq (.ops [⟨(some 15), 17, .mv (.t 0), none, []⟩, ⟨(some 16), 18, .call 149 [((.t 15), 3)], none, []⟩, ⟨(some 4), 6, .mv (.c (.i .i64 0)), none, []⟩, ⟨(some 5), 7, .mv (.t 16), none, []⟩, ⟨(some 6), 8, .mv (.c (.f 0)), none, []⟩])
 .ret)
 (.seq (.ops [⟨(some 18), 20, .bin .eql (.t 8) (.c (.i .i64 3)), none, []⟩, ⟨(some 17), 19, .mv (.t 18), none, []⟩])
 (.cond (.t 17)
 (.seq (.ops [⟨(some 19), 21, .mv (.t 0), none, []⟩, ⟨(some 20), 22, .call 149 [((.t 19), 3)], none, []⟩, ⟨(some 7), 9, .mv (.t 20), none, []⟩])
 (.seq (.ops [⟨(some 21), 23, .mv (.t 7), none, []⟩, ⟨(some 22), 24, .mv (.t 0), none, []⟩, ⟨(some 23), 25, .call 149 [((.t 22), 3)], none, []⟩, ⟨(some 4), 6, .mv (.c (.i .i64 0)), none, []⟩, ⟨(some 5), 7, .mv (.t 21), none, []⟩, ⟨(some 6), 8, .mv (.t 23), none, []⟩])
 .ret))
 .skip))))))))
 (.seq (.ops [⟨(some 24), 26, .mv (.t 0), none, []⟩, ⟨(some 25), 27, .call 108 [((.t 24), 3), ((.c (.i .i64 2)), 0)], none, []⟩, ⟨(some 4), 6, .mv (.t 25), none, []⟩, ⟨(some 5), 7, .mv (.c (.f 0)), none, []⟩, ⟨(some 6), 8, .mv (.c (.f 0)), none, []⟩])
 .ret)))
theorem k137 : compCode Try.prog Try.f137.ntmps Try.f137.body.get! = some c137 := by kernel_rfl
theorem r137 : resTmps Try.prog Try.f137.results.toList = some [.tmp 4, .tmp 5, .tmp 6] := by kernel_rfl
def c110 : TCode := (.seq (.ops [⟨(some 4), 6, .box 4 (.c (.ag [(.i .i64 0), (.i .i64 0), (.f 0), (.f 0)])), none, []⟩])
 (.seq (.ops [⟨(some 9), 11, .mv (.t 0), none, []⟩, ⟨(some 10), 12, .mv (.t 1), none, []⟩, ⟨(some 11), 13, .call 137 [((.t 9), 3), ((.t 10), 0)], none, []⟩, ⟨(some 8), 10, .mv (.t 11), none, []⟩, ⟨(some 12), 14, .ext 0 (.t 8), none, []⟩, ⟨(some 13), 15, .ext 1 (.t 8), none, []⟩, ⟨(some 14), 16, .ext 2 (.t 8), none, []⟩, ⟨(some 5), 7, .mv (.t 12), none, []⟩, ⟨(some 6), 8, .mv (.t 13), none, []⟩, ⟨(some 7), 9, .mv (.t 14), none, []⟩])
 (.seq (.ops [⟨(some 15), 17, .mv (.t 1), none, []⟩, ⟨(some 16), 18, .mv (.t 5), none, []⟩, ⟨(some 17), 19, .mv (.t 6), none, []⟩, ⟨(some 18), 20, .mv (.t 7), none, []⟩, ⟨(some 19), 21, .build [(.i .i64 0), (.i .i64 0), (.f 0), (.f 0)] [(0, 1, (.t 15)), (1, 1, (.t 16)), (2, 1, (.t 17)), (3, 1, (.t 18))], none, []⟩, ⟨none, 1002005, .store 4 (.t 4) (.t 19), none, []⟩])
 .ret)))
theorem k110 : compCode Try.prog Try.f110.ntmps Try.f110.body.get! = some c110 := by kernel_rfl
theorem r110 : resTmps Try.prog Try.f110.results.toList = some [.cell 4 true 4] := by kernel_rfl
def c109 : TCode := (.seq (.ops [⟨(some 2), 4, .box 4 (.c (.ag [(.i .i64 0), (.i .i64 0), (.f 0), (.f 0)])), none, []⟩])
 (.seq (.ops [⟨(some 4), 6, .mv (.t 0), none, []⟩, ⟨(some 5), 7, .mv (.t 0), none, []⟩, ⟨(some 6), 8, .call 108 [((.t 5), 3), ((.c (.i .i64 4)), 0)], none, []⟩, ⟨(some 7), 9, .bin .add (.c (.i .i64 1)) (.t 6), none, []⟩, ⟨(some 8), 10, .call 110 [((.t 4), 3), ((.t 7), 0)], none, []⟩, ⟨(some 3), 5, .box 4 (.c (.ag [(.i .i64 0), (.i .i64 0), (.f 0), (.f 0)])), none, []⟩, ⟨none, 1001006, .store 4 (.t 3) (.t 8), none, []⟩])
 (.seq (.seq (.ops [⟨(some 9), 11, .mv (.t 0), none, []⟩, ⟨(some 10), 12, .call 105 [((.t 9), 3), ((.c (.i .i64 6)), 0)], none, []⟩])
 (.cond (.t 10)
 (.seq (.ops [⟨(some 11), 13, .mv (.t 0), none, []⟩, ⟨(some 12), 14, .call 108 [((.t 11), 3), ((.c (.i .i64 4)), 0)], none, []⟩])
 (.block 0 (.seq (.ops [⟨(some 15), 17, .bin .eql (.t 12) (.c (.i .i64 0)), none, []⟩, ⟨(some 14), 16, .mv (.t 15), none, []⟩])
 (.cond (.t 14)
 (.ops [⟨(some 16), 18, .mv (.t 0), none, []⟩, ⟨(some 17), 19, .call 108 [((.t 16), 3), ((.c (.i .i64 9)), 0)], none, []⟩, ⟨(some 18), 20, .bin .sub (.t 17) (.c (.i .i64 2)), none, []⟩, ⟨(some 19), 21, .faddr 0 1 (.t 3), none, []⟩, ⟨none, 1006004, .store 1 (.t 19) (.t 18), none, []⟩])
 (.seq (.ops [⟨(some 21), 23, .bin .eql (.t 12) (.c (.i .i64 1)), none, []⟩, ⟨(some 20), 22, .mv (.t 21), none, []⟩])
 (.cond (.t 20)
 (.ops [⟨(some 22), 24, .mv (.t 0), none, []⟩, ⟨(some 23), 25, .call 108 [((.t 22), 3), ((.c (.i .i64 5)), 0)], none, []⟩, ⟨(some 24), 26, .bin .sub (.t 23) (.c (.i .i64 1)), none, []⟩, ⟨(some 25), 27, .faddr 1 1 (.t 3), none, []⟩, ⟨none, 1008004, .store 1 (.t 25) (.t 24), none, []⟩])
 (.seq (.ops [⟨(some 27), 29, .bin .eql (.t 12) (.c (.i .i64 2)), none, []⟩, ⟨(some 26), 28, .mv (.t 27), none, []⟩])
 (.cond (.t 26)
 (.ops [⟨(some 28), 30, .mv (.t 0), none, []⟩, ⟨(some 29), 31, .call 108 [((.t 28), 3), ((.c (.i .i64 2)), 0)], none, []⟩, ⟨(some 30), 32, .toF (.t 29), none, []⟩, ⟨(some 31), 33, .bin .mul (.c (.f 4602678819172646912)) (.t 30), none, []⟩, ⟨(some 32), 34, .un .neg (.t 31), none, []⟩, ⟨(some 33), 35, .faddr 3 1 (.t 3), none, []⟩, ⟨none, 1010006, .store 1 (.t 33) (.t 32), none, []⟩])
 (.ops [⟨(some 13), 15, .faddr 2 1 (.t 3), none, []⟩, ⟨none, 1004001, .store 1 (.t 13) (.c (.f 4607182418800017408)), none, []⟩])))))))))
 .skip))
 (.seq (.ops [⟨(some 34), 36, .load true 4 (.t 3), none, []⟩, ⟨none, 1011001, .store 4 (.t 2) (.t 34), none, []⟩])
 .ret))))
theorem k109 : compCode Try.prog Try.f109.ntmps Try.f109.body.get! = some c109 := by kernel_rfl
theorem r109 : resTmps Try.prog Try.f109.results.toList = some [.cell 2 true 4] := by kernel_rfl
theorem dword_lt (s : Bool) (r : Nat) (hr : r < 9223372036854775808) : Ieee.double.word s r < 18446744073709551616 := by
 have h : Ieee.double.signWeight = 9223372036854775808 := by decide
 unfold Ieee.Format.word
 rw [h]
 split <;> omega
theorem dinf : Ieee.double.infRung = 9218868437227405312 := by decide
theorem dbin : Ieee.double.binade = 4503599627370496 := by decide
theorem dnear_lt (s : Bool) (m : Nat) (p : Int) : Ieee.double.nearest s m p < 18446744073709551616 := by
 unfold Ieee.Format.nearest
 split
 ·exact dword_lt _ _ (by omega)
 ·refine dword_lt _ _ ?_
  rw [dinf]
  omega
theorem dwrite_lt (d : Ieee.Datum) : Ieee.double.write d < 18446744073709551616 := by
 cases d with
 | number s m p => exact dnear_lt s m p
 | infinity s => exact dword_lt _ _ (by rw [dinf]; omega)
 | nan s f =>
  refine dword_lt _ _ ?_
  rw [dinf, dbin]
  omega
theorem fOk_elim {o : Option Ieee.Datum} : fOk ((o.map Ieee.double.write).elim nanC canon) := by
 cases o with
 | none => exact ⟨nanC, by decide, by decide +kernel⟩
 | some d => exact ⟨_, dwrite_lt d, rfl⟩
theorem fOk_mul (x y : Nat) : fOk (fltArith .mul x y) := fOk_elim (o := (Ieee.double.read x).product (Ieee.double.read y))
theorem fOk_quo (x y : Nat) : fOk (fltArith .quo x y) := fOk_elim (o := (Ieee.double.read x).quotient (Ieee.double.fractionBits + 2) (Ieee.double.read y))
theorem fOk_neg {x : Nat} (hx : fOk x) : fOk (canon (Op.negFloat .f64 x)) := ⟨_, by
 unfold Op.negFloat
 exact Nat.xor_lt_two_pow (n := 64) (fOk_lt hx) (by decide), rfl⟩
theorem fOk_c1 : fOk 9094988921128908188 := ⟨9094988921128908188, by omega, by decide +kernel⟩
theorem fOk_c2 : fOk 18438243695727462560 := ⟨18438243695727462560, by omega, by decide +kernel⟩
theorem fOk_c3 : fOk 4591870180066957722 := ⟨4591870180066957722, by omega, by decide +kernel⟩
theorem fOk_c4 : fOk 4607182418800017408 := ⟨4607182418800017408, by omega, by decide +kernel⟩
theorem w150  : Contract Try.prog false 150 [] [] [.f (fltArith .quo 0 0)] [] := by
 refine mk_contract [] Try.func150 (c := Try.f150.body.get!) (by kernel_rfl) k150 r150 (of_decide_eq_true rfl) fun _ => ?_
 unfold c150; simp
theorem w151  : Contract Try.prog false 151 [] [] [.f (fltArith .quo 4607182418800017408 0)] [] := by
 refine mk_contract [] Try.func151 (c := Try.f151.body.get!) (by kernel_rfl) k151 r151 (of_decide_eq_true rfl) fun _ => ?_
 unfold c151; simp
def in64 (n : Int) : Prop := -9223372036854775808 ≤ n ∧ n ≤ 9223372036854775807
theorem in64_wrap (n : Int) : in64 (IntKind.i64.wrap n) := by
 unfold in64
 rw [IntKind.wrap_i64]
 omega
theorem in64_small {n : Int} (h0 : -1000 ≤ n) (h1 : n ≤ 1000) : in64 n := ⟨by omega, by omega⟩
set_option maxRecDepth 100000 in
theorem w148 (bs : List Int) (i0 : Nat) (h0 : Int) (hb : bs.length ≤ 2^40) (hi0 : i0 ≤ bs.length) : ∃ x : Nat × Int × Int, (x.1 ≤ bs.length ∧ in64 x.2.2) ∧ Contract Try.prog true 148 [.own] [curT bs i0 h0] [.i .i64 x.2.2] [some (curT bs x.1 x.2.1)] := by
 refine mk_contractE [some [(1, 0)]] Try.func148 (c := Try.f148.body.get!) (by kernel_rfl) k148 r148 (of_decide_eq_true rfl) ?_
 unfold c148; unfold curT; simp
 obtain ⟨⟨i1, h1, y⟩, ⟨a1, b1, c1⟩, hC⟩ := w108 bs i0 h0 14 hb hi0
 simp only at a1 b1 c1 hC
 unfold curT at hC
 refine callW_ms [.own, .ro] ?_
 simp
 refine callX_of hC (by simp) ?_
 simp
 refine ⟨fun h => ?_, fun h => ?_⟩
 ·refine exK_of (i1, h1, -9223372036854775808) ⟨a1, ⟨by simp only; omega, by simp only; omega⟩⟩ ?_
  simp
 refine ⟨fun h => ?_, fun h => ?_⟩
 ·refine exK_of (i1, h1, 9223372036854775807) ⟨a1, ⟨by simp only; omega, by simp only; omega⟩⟩ ?_
  simp
 refine ⟨fun h => ?_, fun h => ?_⟩
 ·refine exK_of (i1, h1, 0) ⟨a1, ⟨by simp only; omega, by simp only; omega⟩⟩ ?_
  simp
 refine ⟨fun h => ?_, fun h => ?_⟩
 ·refine exK_of (i1, h1, -1) ⟨a1, ⟨by simp only; omega, by simp only; omega⟩⟩ ?_
  simp
 refine ⟨fun h => ?_, fun h => ?_⟩
 ·obtain ⟨⟨i2, h2, y2⟩, ⟨a2, b2, c2⟩, hC2⟩ := w108 bs i1 h1 2000000000 hb a1
  simp only at a2 b2 c2 hC2
  unfold curT at hC2
  refine callW_ms [.own, .ro] ?_
  simp
  refine callX_of hC2 (by simp) ?_
  simp
  refine exK_of (i2, h2, IntKind.i64.wrap (y2 * 3037000500)) ⟨a2, in64_wrap _⟩ ?_
  simp
 ·obtain ⟨⟨i2, h2, y2⟩, ⟨a2, b2, c2⟩, hC2⟩ := w108 bs i1 h1 41 hb a1
  simp only at a2 b2 c2 hC2
  unfold curT at hC2
  refine callW_ms [.own, .ro] ?_
  simp
  refine callX_of hC2 (by simp) ?_
  simp
  refine exK_of (i2, h2, IntKind.i64.wrap (y2 - 12)) ⟨a2, in64_wrap _⟩ ?_
  simp
set_option maxRecDepth 100000 in
theorem w149 (bs : List Int) (i0 : Nat) (h0 : Int) (hb : bs.length ≤ 2^40) (hi0 : i0 ≤ bs.length) : ∃ x : Nat × Int × Nat, (x.1 ≤ bs.length ∧ fOk x.2.2) ∧ Contract Try.prog true 149 [.own] [curT bs i0 h0] [.f x.2.2] [some (curT bs x.1 x.2.1)] := by
 refine mk_contractE [some [(1, 0)]] Try.func149 (c := Try.f149.body.get!) (by kernel_rfl) k149 r149 (of_decide_eq_true rfl) ?_
 unfold c149; unfold curT; simp
 obtain ⟨⟨i1, h1, y1⟩, ⟨a1, b1, c1⟩, hC1⟩ := w108 bs i0 h0 12 hb hi0
 simp only at a1 b1 c1 hC1
 unfold curT at hC1
 refine callW_ms [.own, .ro] ?_
 simp
 refine callX_of hC1 (by simp) ?_
 simp
 refine ⟨fun h => ?_, fun h => ?_⟩
 ·refine exK_of (i1, h1, 0) ⟨a1, fOk_zero⟩ ?_
  simp
 refine ⟨fun h => ?_, fun h => ?_⟩
 ·obtain ⟨⟨i2, h2, y2⟩, ⟨a2, b2, c2⟩, hC2⟩ := w108 bs i1 h1 4 hb a1
  simp only at a2 b2 c2 hC2
  unfold curT at hC2
  refine callW_ms [.own, .ro] ?_
  simp
  refine callX_of hC2 (by simp) ?_
  simp
  refine exK_of (i2, h2, canon (Op.negFloat .f64 (fltArith .mul 4598175219545276416 (canon (FloatKind.f64.nearest y2))))) ⟨a2, fOk_neg (fOk_mul _ _)⟩ ?_
  simp
 refine ⟨fun h => ?_, fun h => ?_⟩
 ·refine exK_of (i1, h1, 9094988921128908188) ⟨a1, fOk_c1⟩ ?_
  simp
 refine ⟨fun h => ?_, fun h => ?_⟩
 ·obtain ⟨⟨i2, h2, y2⟩, a2, hC2⟩ := w105 bs i1 h1 3 hb a1
  simp only at a2 hC2
  unfold curT at hC2
  refine callW_ms [.own, .ro] ?_
  simp
  refine callX_of hC2 (by simp) ?_
  cases y2 with
  | true =>
   simp
   refine callW_ms [] ?_
   simp
   refine callX_of w150 (by simp) ?_
   simp
   refine exK_of (i2, h2, fltArith .quo 0 0) ⟨a2, fOk_quo 0 0⟩ ?_
   simp
  | false =>
   simp
   refine exK_of (i2, h2, 18438243695727462560) ⟨a2, fOk_c2⟩ ?_
   simp
 refine ⟨fun h => ?_, fun h => ?_⟩
 ·obtain ⟨⟨i2, h2, y2⟩, a2, hC2⟩ := w105 bs i1 h1 2 hb a1
  simp only at a2 hC2
  unfold curT at hC2
  refine callW_ms [.own, .ro] ?_
  simp
  refine callX_of hC2 (by simp) ?_
  cases y2 with
  | true =>
   simp
   refine callW_ms [] ?_
   simp
   refine callX_of w151 (by simp) ?_
   simp
   refine exK_of (i2, h2, fltArith .quo 4607182418800017408 0) ⟨a2, fOk_quo 4607182418800017408 0⟩ ?_
   simp
  | false =>
   simp
   refine exK_of (i2, h2, 4591870180066957722) ⟨a2, fOk_c3⟩ ?_
   simp
 ·obtain ⟨⟨i2, h2, y2⟩, ⟨a2, b2, c2⟩, hC2⟩ := w108 bs i1 h1 4001 hb a1
  simp only at a2 b2 c2 hC2
  unfold curT at hC2
  refine callW_ms [.own, .ro] ?_
  simp
  refine callX_of hC2 (by simp) ?_
  simp
  refine exK_of (i2, h2, fltArith .quo (canon (FloatKind.f64.nearest (IntKind.i64.wrap (y2 - 2000)))) 4620693217682128896) ⟨a2, fOk_quo _ _⟩ ?_
  simp
set_option maxRecDepth 100000 in
theorem w137 (bs : List Int) (i0 : Nat) (h0 k : Int) (hb : bs.length ≤ 2^40) (hi0 : i0 ≤ bs.length) : ∃ x : Nat × Int × Int × Nat × Nat, (x.1 ≤ bs.length ∧ fOk x.2.2.2.1 ∧ fOk x.2.2.2.2 ∧ in64 x.2.2.1) ∧ Contract Try.prog true 137 [.own, .ro] [curT bs i0 h0, .i .i64 k] [.i .i64 x.2.2.1, .f x.2.2.2.1, .f x.2.2.2.2] [some (curT bs x.1 x.2.1)] := by
 refine mk_contractE [some [(1, 0)]] Try.func137 (c := Try.f137.body.get!) (by kernel_rfl) k137 r137 (of_decide_eq_true rfl) ?_
 unfold c137; unfold curT; simp
 refine ⟨fun h => ?_, fun h => ?_⟩
 ·obtain ⟨⟨i1, h1, y1⟩, ⟨a1, g1⟩, hC1⟩ := w148 bs i0 h0 hb hi0
  simp only at a1 hC1
  unfold curT at hC1
  refine callW_ms [.own] ?_
  simp
  refine callX_of hC1 (by simp) ?_
  simp
  refine exK_of (i1, h1, y1, 0, 0) ⟨a1, fOk_zero, fOk_zero, g1⟩ ?_
  simp
 refine ⟨fun h => ?_, fun h => ?_⟩
 ·obtain ⟨⟨i1, h1, y1⟩, ⟨a1, b1⟩, hC1⟩ := w149 bs i0 h0 hb hi0
  simp only at a1 hC1
  unfold curT at hC1
  refine callW_ms [.own] ?_
  simp
  refine callX_of hC1 (by simp) ?_
  simp
  refine exK_of (i1, h1, 0, y1, 0) ⟨a1, b1, fOk_zero, in64_small (by simp only; omega) (by simp only; omega)⟩ ?_
  simp
 refine ⟨fun h => ?_, fun h => ?_⟩
 ·obtain ⟨⟨i1, h1, y1⟩, ⟨a1, b1⟩, hC1⟩ := w149 bs i0 h0 hb hi0
  simp only at a1 hC1
  unfold curT at hC1
  refine callW_ms [.own] ?_
  simp
  refine callX_of hC1 (by simp) ?_
  simp
  obtain ⟨⟨i2, h2, y2⟩, ⟨a2, b2⟩, hC2⟩ := w149 bs i1 h1 hb a1
  simp only at a2 hC2
  unfold curT at hC2
  refine callW_ms [.own] ?_
  simp
  refine callX_of hC2 (by simp) ?_
  simp
  refine exK_of (i2, h2, 0, y1, y2) ⟨a2, b1, b2, in64_small (by simp only; omega) (by simp only; omega)⟩ ?_
  simp
 ·obtain ⟨⟨i1, h1, y1⟩, ⟨a1, b1, c1⟩, hC1⟩ := w108 bs i0 h0 2 hb hi0
  simp only at a1 b1 c1 hC1
  unfold curT at hC1
  refine callW_ms [.own, .ro] ?_
  simp
  refine callX_of hC1 (by simp) ?_
  simp
  refine exK_of (i1, h1, y1, 0, 0) ⟨a1, fOk_zero, fOk_zero, in64_small (by simp only; omega) (by have := c1 (by omega); simp only; omega)⟩ ?_
  simp
set_option maxRecDepth 100000 in
theorem w110 (bs : List Int) (i0 : Nat) (h0 k : Int) (hb : bs.length ≤ 2^40) (hi0 : i0 ≤ bs.length) : ∃ x : Nat × Int × ValP, (x.1 ≤ bs.length ∧ valOkF x.2.2 ∧ in64 x.2.2.2.1) ∧ Contract Try.prog true 110 [.own, .ro] [curT bs i0 h0, .i .i64 k] [valV x.2.2] [some (curT bs x.1 x.2.1)] := by
 refine mk_contractE [some [(1, 0)]] Try.func110 (c := Try.f110.body.get!) (by kernel_rfl) k110 r110 (of_decide_eq_true rfl) ?_
 unfold c110; unfold curT valV; simp
 obtain ⟨⟨i1, h1, y, f1, f2⟩, ⟨a1, b1, c1, g1⟩, hC1⟩ := w137 bs i0 h0 k hb hi0
 simp only at a1 b1 c1 hC1
 unfold curT at hC1
 refine callW_ms [.own, .ro] ?_
 simp
 refine callX_of hC1 (by simp) ?_
 simp
 refine exK_of (i1, h1, (k, y, f1, f2)) ⟨a1, ⟨b1, c1⟩, g1⟩ ?_
 simp
set_option maxRecDepth 100000 in
theorem w109 (bs : List Int) (i0 : Nat) (h0 : Int) (hb : bs.length ≤ 2^40) (hi0 : i0 ≤ bs.length) : ∃ x : Nat × Int × ValP, (x.1 ≤ bs.length ∧ valOkF x.2.2 ∧ in64 x.2.2.2.1) ∧ Contract Try.prog true 109 [.own] [curT bs i0 h0] [valV x.2.2] [some (curT bs x.1 x.2.1)] := by
 refine mk_contractE [some [(1, 0)]] Try.func109 (c := Try.f109.body.get!) (by kernel_rfl) k109 r109 (of_decide_eq_true rfl) ?_
 unfold c109; unfold curT valV; simp
 obtain ⟨⟨i1, h1, y1⟩, ⟨a1, b1, c1⟩, hC1⟩ := w108 bs i0 h0 4 hb hi0
 simp only at a1 b1 c1 hC1
 unfold curT at hC1
 refine callW_ms [.own, .ro] ?_
 simp
 refine callX_of hC1 (by simp) ?_
 simp
 obtain ⟨⟨i2, h2, v2⟩, ⟨a2, b2, g2⟩, hC2⟩ := w110 bs i1 h1 (IntKind.i64.wrap (1 + y1)) hb a1
 simp only at a2 b2 hC2
 unfold curT valV at hC2
 refine callW_ms [.own, .ro] ?_
 simp
 refine callX_of hC2 (by simp) ?_
 simp
 obtain ⟨⟨i3, h3, y3⟩, a3, hC3⟩ := w105 bs i2 h2 6 hb a2
 simp only at a3 hC3
 unfold curT at hC3
 refine callW_ms [.own, .ro] ?_
 simp
 refine callX_of hC3 (by simp) ?_
 cases y3 with
 | false =>
  simp
  refine exK_of (i3, h3, v2) ⟨a3, b2, g2⟩ ?_
  simp
 | true =>
  simp
  obtain ⟨⟨i4, h4, y4⟩, ⟨a4, b4, c4⟩, hC4⟩ := w108 bs i3 h3 4 hb a3
  simp only at a4 b4 c4 hC4
  unfold curT at hC4
  refine callW_ms [.own, .ro] ?_
  simp
  refine callX_of hC4 (by simp) ?_
  simp
  refine ⟨fun h => ?_, fun h => ?_⟩
  ·obtain ⟨⟨i5, h5, y5⟩, ⟨a5, b5, c5⟩, hC5⟩ := w108 bs i4 h4 9 hb a4
   simp only at a5 b5 c5 hC5
   unfold curT at hC5
   refine callW_ms [.own, .ro] ?_
   simp
   refine callX_of hC5 (by simp) ?_
   simp
   refine exK_of (i5, h5, (IntKind.i64.wrap (y5 - 2), v2.2.1, v2.2.2.1, v2.2.2.2)) ⟨a5, ⟨b2.1, b2.2⟩, g2⟩ ?_
   simp
  refine ⟨fun h => ?_, fun h => ?_⟩
  ·obtain ⟨⟨i5, h5, y5⟩, ⟨a5, b5, c5⟩, hC5⟩ := w108 bs i4 h4 5 hb a4
   simp only at a5 b5 c5 hC5
   unfold curT at hC5
   refine callW_ms [.own, .ro] ?_
   simp
   refine callX_of hC5 (by simp) ?_
   simp
   refine exK_of (i5, h5, (v2.1, IntKind.i64.wrap (y5 - 1), v2.2.2.1, v2.2.2.2)) ⟨a5, ⟨b2.1, b2.2⟩, in64_wrap _⟩ ?_
   simp
  refine ⟨fun h => ?_, fun h => ?_⟩
  ·obtain ⟨⟨i5, h5, y5⟩, ⟨a5, b5, c5⟩, hC5⟩ := w108 bs i4 h4 2 hb a4
   simp only at a5 b5 c5 hC5
   unfold curT at hC5
   refine callW_ms [.own, .ro] ?_
   simp
   refine callX_of hC5 (by simp) ?_
   simp
   refine exK_of (i5, h5, (v2.1, v2.2.1, v2.2.2.1, canon (Op.negFloat .f64 (fltArith .mul 4602678819172646912 (canon (FloatKind.f64.nearest y5)))))) ⟨a5, ⟨b2.1, fOk_neg (fOk_mul _ _)⟩, g2⟩ ?_
   simp
  ·refine exK_of (i4, h4, (v2.1, v2.2.1, 4607182418800017408, v2.2.2.2)) ⟨a4, ⟨fOk_c4, b2.2⟩, g2⟩ ?_
   simp
end Go.Proofs.YtehmdblkkpdmoaaT


namespace Go.Proofs.YtehmdblkkpdmoaaT
set_option linter.unusedVariables false
set_option linter.unusedSimpArgs false
open Go
def c103 : TCode := (.seq (.ops [⟨(some 0), 2, .box 3 (.c (.ag [(.sl true 2 []), (.sl true 2 []), (.sl true 2 [])])), none, []⟩])
 (.seq (.ops [⟨(some 1), 3, .build [(.s ⟨#[]⟩), (.i .i64 0)] [(0, 1, (.c (.s ⟨#[80, 111, 115]⟩))), (1, 1, (.c (.i .i64 3)))], none, []⟩, ⟨(some 2), 4, .build [(.s ⟨#[]⟩), (.i .i64 0)] [(0, 1, (.c (.s ⟨#[86, 101, 108]⟩))), (1, 1, (.c (.i .i64 3)))], none, []⟩, ⟨(some 3), 5, .build [(.s ⟨#[]⟩), (.i .i64 0)] [(0, 1, (.c (.s ⟨#[72, 112]⟩))), (1, 1, (.c (.i .i64 1)))], none, []⟩, ⟨(some 4), 6, .build [(.s ⟨#[]⟩), (.i .i64 0)] [(0, 1, (.c (.s ⟨#[77, 97, 115, 115]⟩))), (1, 1, (.c (.i .i64 2)))], none, []⟩, ⟨(some 5), 7, .build [(.s ⟨#[]⟩), (.i .i64 0)] [(0, 1, (.c (.s ⟨#[84, 97, 103]⟩))), (1, 1, (.c (.i .i64 4)))], none, []⟩, ⟨(some 6), 8, .bslice 2 5 [(.s ⟨#[]⟩), (.i .i64 0)] [(0, (.t 1)), (1, (.t 2)), (2, (.t 3)), (3, (.t 4)), (4, (.t 5))], none, []⟩, ⟨(some 7), 9, .build [(.s ⟨#[]⟩), (.i .i64 0)] [(0, 1, (.c (.s ⟨#[83, 99, 111, 114, 101]⟩))), (1, 1, (.c (.i .i64 1)))], none, []⟩, ⟨(some 8), 10, .build [(.s ⟨#[]⟩), (.i .i64 0)] [(0, 1, (.c (.s ⟨#[87, 105, 110, 100]⟩))), (1, 1, (.c (.i .i64 2)))], none, []⟩, ⟨(some 9), 11, .build [(.s ⟨#[]⟩), (.i .i64 0)] [(0, 1, (.c (.s ⟨#[70, 108, 111, 119]⟩))), (1, 1, (.c (.i .i64 3)))], none, []⟩, ⟨(some 10), 12, .build [(.s ⟨#[]⟩), (.i .i64 0)] [(0, 1, (.c (.s ⟨#[79, 112, 101, 110]⟩))), (1, 1, (.c (.i .i64 4)))], none, []⟩, ⟨(some 11), 13, .bslice 2 4 [(.s ⟨#[]⟩), (.i .i64 0)] [(0, (.t 7)), (1, (.t 8)), (2, (.t 9)), (3, (.t 10))], none, []⟩, ⟨(some 12), 14, .build [(.s ⟨#[]⟩), (.i .i64 0)] [(0, 1, (.c (.s ⟨#[72, 105, 116]⟩))), (1, 1, (.c (.i .i64 1)))], none, []⟩, ⟨(some 13), 15, .build [(.s ⟨#[]⟩), (.i .i64 0)] [(0, 1, (.c (.s ⟨#[80, 105, 110, 103]⟩))), (1, 1, (.c (.i .i64 2)))], none, []⟩, ⟨(some 14), 16, .bslice 2 2 [(.s ⟨#[]⟩), (.i .i64 0)] [(0, (.t 12)), (1, (.t 13))], none, []⟩, ⟨(some 15), 17, .build [(.sl true 2 []), (.sl true 2 []), (.sl true 2 [])] [(0, 1, (.t 6)), (1, 1, (.t 11)), (2, 1, (.t 14))], none, []⟩, ⟨none, 1001015, .store 3 (.t 0) (.t 15), none, []⟩])
 .ret))
theorem k103 : compCode Try.prog Try.f103.ntmps Try.f103.body.get! = some c103 := by kernel_rfl
theorem r103 : resTmps Try.prog Try.f103.results.toList = some [.cell 0 true 3] := by kernel_rfl
def c101 : TCode := (.seq (.ops [⟨(some 2), 4, .box 3 (.c (.ag [(.sl true 2 []), (.sl true 2 []), (.sl true 2 [])])), none, []⟩])
 (.seq (.ops [⟨(some 6), 8, .call 103 [], none, []⟩, ⟨(some 3), 5, .box 3 (.c (.ag [(.sl true 2 []), (.sl true 2 []), (.sl true 2 [])])), none, []⟩, ⟨none, 1001002, .store 3 (.t 3) (.t 6), none, []⟩])
 (.seq (.seq (.ops [⟨(some 7), 9, .mv (.t 0), none, []⟩, ⟨(some 8), 10, .call 108 [((.t 7), 3), ((.c (.i .i64 10)), 0)], none, []⟩])
 (.block 0 (.seq (.ops [⟨(some 10), 12, .bin .eql (.t 8) (.c (.i .i64 0)), none, []⟩, ⟨(some 9), 11, .mv (.t 10), none, []⟩])
 (.cond (.t 9)
 (.seq (.ops [⟨(some 11), 13, .faddr 0 1 (.t 3), none, []⟩, ⟨(some 12), 14, .load false 1 (.t 11), none, []⟩, ⟨(some 13), 15, .slice false 2 (.t 12) none (some (.c (.i .i64 3))), none, []⟩, ⟨(some 14), 16, .faddr 0 1 (.t 3), none, []⟩, ⟨none, 1004004, .store 1 (.t 14) (.t 13), none, []⟩])
 (.ops [⟨(some 15), 17, .faddr 2 1 (.t 3), none, []⟩, ⟨none, 1005001, .store 1 (.t 15) (.c (.sl true 2 [])), none, []⟩]))
 (.seq (.ops [⟨(some 17), 19, .bin .eql (.t 8) (.c (.i .i64 1)), none, []⟩, ⟨(some 16), 18, .mv (.t 17), none, []⟩])
 (.cond (.t 16)
 (.draw [⟨(some 18), 20, .faddr 1 1 (.t 3), none, []⟩, ⟨(some 19), 21, .load false 1 (.t 18), none, []⟩, ⟨(some 20), 22, .mv (.t 0), none, []⟩, ⟨(some 21), 23, .call 108 [((.t 20), 3), ((.c (.i .i64 4)), 0)], none, [0, 1]⟩, ⟨(some 22), 24, .mv (.t 0), none, [3]⟩, ⟨(some 23), 25, .call 108 [((.t 22), 3), ((.c (.i .i64 4)), 0)], none, [0, 1]⟩, ⟨(some 24), 26, .bin .add (.c (.i .i64 1)) (.t 23), none, []⟩, ⟨(some 25), 27, .iaddr 2 (.t 19) (.t 21), none, []⟩, ⟨(some 26), 28, .faddr 1 1 (.t 25), none, []⟩, ⟨none, 1007009, .store 1 (.t 26) (.t 24), none, []⟩])
 (.seq (.ops [⟨(some 28), 30, .bin .eql (.t 8) (.c (.i .i64 2)), none, []⟩, ⟨(some 27), 29, .mv (.t 28), none, []⟩])
 (.cond (.t 27)
 (.seq (.ops [⟨(some 29), 31, .mv (.t 0), none, []⟩, ⟨(some 30), 32, .call 108 [((.t 29), 3), ((.c (.i .i64 5)), 0)], none, []⟩])
 (.block 1 (.seq (.ops [⟨(some 36), 38, .bin .eql (.t 30) (.c (.i .i64 0)), none, []⟩, ⟨(some 35), 37, .mv (.t 36), none, []⟩])
 (.cond (.t 35)
 (.ops [⟨(some 37), 39, .faddr 0 1 (.t 3), none, []⟩, ⟨(some 38), 40, .load false 1 (.t 37), none, []⟩, ⟨(some 39), 41, .iaddr 2 (.t 38) (.c (.i .i64 1)), none, []⟩, ⟨(some 40), 42, .faddr 0 1 (.t 39), none, []⟩, ⟨none, 1012004, .store 1 (.t 40) (.c (.s ⟨#[80, 111, 115]⟩)), none, []⟩])
 (.seq (.ops [⟨(some 42), 44, .bin .eql (.t 30) (.c (.i .i64 1)), none, []⟩, ⟨(some 41), 43, .mv (.t 42), none, []⟩])
 (.cond (.t 41)
 (.draw [⟨(some 43), 45, .faddr 2 1 (.t 3), none, []⟩, ⟨(some 44), 46, .load false 1 (.t 43), none, []⟩, ⟨(some 45), 47, .mv (.t 0), none, []⟩, ⟨(some 46), 48, .bslice 1 2 [(.i .i64 0)] [(0, (.c (.i .i64 0))), (1, (.c (.i .i64 5)))], none, [0, 1, 2]⟩, ⟨(some 47), 49, .call 125 [((.t 45), 3), ((.t 46), 0)], none, [0, 1]⟩, ⟨(some 48), 50, .iaddr 2 (.t 44) (.c (.i .i64 0)), none, []⟩, ⟨(some 49), 51, .faddr 1 1 (.t 48), none, []⟩, ⟨none, 1014007, .store 1 (.t 49) (.t 47), none, []⟩])
 (.seq (.ops [⟨(some 51), 53, .bin .eql (.t 30) (.c (.i .i64 2)), none, []⟩, ⟨(some 50), 52, .mv (.t 51), none, []⟩])
 (.cond (.t 50)
 (.draw [⟨(some 52), 54, .faddr 1 1 (.t 3), none, []⟩, ⟨(some 53), 55, .load false 1 (.t 52), none, []⟩, ⟨(some 54), 56, .mv (.t 0), none, []⟩, ⟨(some 55), 57, .bslice 1 4 [(.s ⟨#[]⟩)] [(0, (.c (.s ⟨#[]⟩))), (1, (.c (.s ⟨#[97, 98, 99, 100, 101, 102, 103, 104, 105, 106, 107, 108, 109]⟩))), (2, (.c (.s ⟨#[97, 49]⟩))), (3, (.c (.s ⟨#[108, 101, 116]⟩)))], none, [0, 1, 2]⟩, ⟨(some 56), 58, .call 126 [((.t 54), 3), ((.t 55), 0)], none, [0, 1]⟩, ⟨(some 57), 59, .iaddr 2 (.t 53) (.c (.i .i64 0)), none, []⟩, ⟨(some 58), 60, .faddr 0 1 (.t 57), none, []⟩, ⟨none, 1016007, .store 1 (.t 58) (.t 56), none, []⟩])
 (.seq (.ops [⟨(some 60), 62, .bin .eql (.t 30) (.c (.i .i64 3)), none, []⟩, ⟨(some 59), 61, .mv (.t 60), none, []⟩])
 (.cond (.t 59)
 (.seq (.ops [⟨(some 4), 6, .mv (.c (.i .i64 0)), none, []⟩])
 (.block 2 (.loop (.seq (.seq (.ops [⟨(some 61), 63, .mv (.t 4), none, []⟩, ⟨(some 62), 64, .bin .lss (.t 61) (.c (.i .i64 8)), none, []⟩])
 (.cond (.t 62)
 .skip
 (.exit 2)))
 (.seq (.block 3 (.ops [⟨(some 65), 67, .faddr 0 1 (.t 3), none, []⟩, ⟨(some 66), 68, .load false 1 (.t 65), none, []⟩, ⟨(some 67), 69, .mv (.t 4), none, []⟩, ⟨(some 68), 70, .bin .add (.c (.i .i64 97)) (.t 67), none, []⟩, ⟨(some 69), 71, .toInt .u8 (.t 68), none, []⟩, ⟨(some 70), 72, .bslice 1 1 [(.i .u8 0)] [(0, (.t 69))], none, []⟩, ⟨(some 71), 73, .toS (.t 70), none, []⟩, ⟨(some 72), 74, .bin .add (.c (.s ⟨#[88]⟩)) (.t 71), none, []⟩, ⟨(some 73), 75, .build [(.s ⟨#[]⟩), (.i .i64 0)] [(0, 1, (.t 72)), (1, 1, (.c (.i .i64 1)))], none, []⟩, ⟨(some 74), 76, .bslice 2 1 [(.s ⟨#[]⟩), (.i .i64 0)] [(0, (.t 73))], none, []⟩, ⟨(some 75), 77, .app 2 24 (.t 66) (.t 74), none, []⟩, ⟨(some 76), 78, .faddr 0 1 (.t 3), none, []⟩, ⟨none, 1021012, .store 1 (.t 76) (.t 75), none, []⟩]))
 (.ops [⟨(some 63), 65, .mv (.t 4), none, []⟩, ⟨(some 64), 66, .bin .add (.t 63) (.c (.i .i64 1)), none, []⟩, ⟨(some 4), 6, .mv (.t 64), none, []⟩]))))))
 (.ops [⟨(some 31), 33, .faddr 2 1 (.t 3), none, []⟩, ⟨(some 32), 34, .load false 1 (.t 31), none, []⟩, ⟨(some 33), 35, .iaddr 2 (.t 32) (.c (.i .i64 1)), none, []⟩, ⟨(some 34), 36, .faddr 0 1 (.t 33), none, []⟩, ⟨none, 1010004, .store 1 (.t 34) (.c (.s ⟨#[87, 105, 110, 100]⟩)), none, []⟩])))))))))))
 (.seq (.ops [⟨(some 78), 80, .bin .eql (.t 8) (.c (.i .i64 3)), none, []⟩, ⟨(some 77), 79, .mv (.t 78), none, []⟩])
 (.cond (.t 77)
 (.seq (.ops [⟨(some 5), 7, .mv (.c (.i .i64 0)), none, []⟩])
 (.block 4 (.loop (.seq (.seq (.ops [⟨(some 79), 81, .mv (.t 5), none, []⟩, ⟨(some 80), 82, .bin .lss (.t 79) (.c (.i .i64 7)), none, []⟩])
 (.cond (.t 80)
 .skip
 (.exit 4)))
 (.seq (.block 5 (.ops [⟨(some 83), 85, .faddr 0 1 (.t 3), none, []⟩, ⟨(some 84), 86, .load false 1 (.t 83), none, []⟩, ⟨(some 85), 87, .mv (.t 5), none, []⟩, ⟨(some 86), 88, .bin .add (.c (.i .i64 97)) (.t 85), none, []⟩, ⟨(some 87), 89, .toInt .u8 (.t 86), none, []⟩, ⟨(some 88), 90, .bslice 1 1 [(.i .u8 0)] [(0, (.t 87))], none, []⟩, ⟨(some 89), 91, .toS (.t 88), none, []⟩, ⟨(some 90), 92, .bin .add (.c (.s ⟨#[88]⟩)) (.t 89), none, []⟩, ⟨(some 91), 93, .mv (.t 5), none, []⟩, ⟨(some 92), 94, .bin .rem (.t 91) (.c (.i .i64 4)), none, []⟩, ⟨(some 93), 95, .bin .add (.c (.i .i64 1)) (.t 92), none, []⟩, ⟨(some 94), 96, .build [(.s ⟨#[]⟩), (.i .i64 0)] [(0, 1, (.t 90)), (1, 1, (.t 93))], none, []⟩, ⟨(some 95), 97, .bslice 2 1 [(.s ⟨#[]⟩), (.i .i64 0)] [(0, (.t 94))], none, []⟩, ⟨(some 96), 98, .app 2 24 (.t 84) (.t 95), none, []⟩, ⟨(some 97), 99, .faddr 0 1 (.t 3), none, []⟩, ⟨none, 1026015, .store 1 (.t 97) (.t 96), none, []⟩]))
 (.ops [⟨(some 81), 83, .mv (.t 5), none, []⟩, ⟨(some 82), 84, .bin .add (.t 81) (.c (.i .i64 1)), none, []⟩, ⟨(some 5), 7, .mv (.t 82), none, []⟩]))))))
 .skip))))))))))
 (.seq (.ops [⟨(some 98), 100, .load true 3 (.t 3), none, []⟩, ⟨none, 1027001, .store 3 (.t 2) (.t 98), none, []⟩])
 .ret))))
theorem k101 : compCode Try.prog Try.f101.ntmps Try.f101.body.get! = some c101 := by kernel_rfl
theorem r101 : resTmps Try.prog Try.f101.results.toList = some [.cell 2 true 3] := by kernel_rfl
theorem w126 (bs : List Int) (L : List ByteArray) (i : Nat) (h : Int) (hb : bs.length ≤ 2^40) (hi : i ≤ bs.length) (hL : 0 < L.length) (hL2 : L.length ≤ 256) : ∃ x : Nat × Int × ByteArray, (x.1 ≤ bs.length ∧ x.2.2 ∈ L) ∧ Contract Try.prog true 126 [.own, .own] [curT bs i h, .sl true 1 (L.map sT)] [.s x.2.2] [some (curT bs x.1 x.2.1), none] := by
 refine mk_contractE [some [(1, 0)], none] Try.func126 (c := Try.f126.body.get!) (by kernel_rfl) k126 r126 (of_decide_eq_true rfl) ?_
 unfold c126; unfold curT; simp
 obtain ⟨⟨i1, h1, y⟩, ⟨a1, a2, a3⟩, hC⟩ := w108 bs i h L.length hb hi
 simp only at a1 a2 a3 hC
 unfold curT at hC
 have hy := a3 (by omega)
 obtain ⟨z, hz⟩ : ∃ z, L[y.toNat]? = some z := get_some (by omega)
 refine callW_ms [.own, .ro] ?_
 simp
 refine callX_of hC (by simp) ?_
 simp [hz, a2]
 refine ⟨hy, exK_of (i1, h1, z) ⟨a1, List.mem_of_getElem? hz⟩ ?_⟩
 simp
abbrev DcP := List (ByteArray × Int)
def smallD (l : DcP) : Prop := l.length ≤ 20 ∧ ∀ d ∈ l, d.1.size ≤ 100
theorem small_nil : smallD [] := ⟨by simp, fun d h => by cases h⟩
theorem small_take {l : DcP} (h : smallD l) (k : Nat) : smallD (l.take k) := ⟨by have := h.1; simp; omega, fun d hd => h.2 d (List.mem_of_mem_take hd)⟩
theorem small_snoc {l : DcP} (h : smallD l) (h2 : l.length < 20) {d : ByteArray × Int} (hd : d.1.size ≤ 100) : smallD (l ++ [d]) := ⟨by simp; omega, fun x hx => by
 rcases List.mem_append.1 hx with hx | hx
 ·exact h.2 x hx
 ·rw [List.mem_singleton.1 hx]; exact hd⟩
theorem dT_kind (v : Int) : ∀ (r : DcP) (k : Nat), ((List.map dT r).modify k fun e => e.modify 1 fun x => TV.i .i64 v) = List.map dT (r.modify k fun d => (d.1, v))
 | [], k => by simp
 | d :: r, 0 => by simp
 | d :: r, k + 1 => by simpa using dT_kind v r k
theorem dT_name (s : ByteArray) : ∀ (r : DcP) (k : Nat), ((List.map dT r).modify k fun e => e.modify 0 fun x => TV.s s) = List.map dT (r.modify k fun d => (s, d.2))
 | [], k => by simp
 | d :: r, 0 => by simp
 | d :: r, k + 1 => by simpa using dT_name s r k
theorem small_mod {f : ByteArray × Int → ByteArray × Int} (hf : ∀ d : ByteArray × Int, d.1.size ≤ 100 → (f d).1.size ≤ 100) : ∀ {l : DcP} (k : Nat), smallD l → smallD (l.modify k f)
 | l, k, h => ⟨by have := h.1; simp; omega, fun x hx => by
   obtain ⟨j, hj⟩ := List.mem_iff_getElem?.1 hx
   rw [List.getElem?_modify] at hj
   obtain ⟨y, hy, rfl⟩ := Option.map_eq_some_iff.1 hj
   have := h.2 y (List.mem_of_getElem? hy)
   split
   ·exact hf y this
   ·exact this⟩
theorem xs_size (b : UInt8) : (⟨#[88]⟩ : ByteArray).size + (⟨#[b]⟩ : ByteArray).size = 2 := rfl
theorem xa_size (b : UInt8) : ((⟨#[88]⟩ : ByteArray) ++ ⟨#[b]⟩).size ≤ 100 := by rw [ByteArray.size_append, xs_size]; omega
set_option maxRecDepth 100000 in
theorem w103  : ∃ x : DcP × DcP × DcP, ((x.1.length = 5 ∧ x.2.1.length = 4 ∧ x.2.2.length = 2) ∧ smallD x.1 ∧ smallD x.2.1 ∧ smallD x.2.2) ∧ Contract Try.prog false 103 [] [] [regO x.1 x.2.1 x.2.2] [] := by
 refine mk_contractE [] Try.func103 (c := Try.f103.body.get!) (by kernel_rfl) k103 r103 (of_decide_eq_true rfl) ?_
 unfold c103; unfold regO; simp
 refine exK_of ([(⟨#[80, 111, 115]⟩, 3), (⟨#[86, 101, 108]⟩, 3), (⟨#[72, 112]⟩, 1), (⟨#[77, 97, 115, 115]⟩, 2), (⟨#[84, 97, 103]⟩, 4)], [(⟨#[83, 99, 111, 114, 101]⟩, 1), (⟨#[87, 105, 110, 100]⟩, 2), (⟨#[70, 108, 111, 119]⟩, 3), (⟨#[79, 112, 101, 110]⟩, 4)], [(⟨#[72, 105, 116]⟩, 1), (⟨#[80, 105, 110, 103]⟩, 2)]) ⟨⟨rfl, rfl, rfl⟩, ⟨by decide, by decide⟩, ⟨by decide, by decide⟩, ⟨by decide, by decide⟩⟩ ?_
 simp
set_option maxRecDepth 100000 in
theorem w101 (bs : List Int) (i0 : Nat) (h0 : Int) (hb : bs.length ≤ 2^40) (hi0 : i0 ≤ bs.length) : ∃ x : Nat × Int × DcP × DcP × DcP, (x.1 ≤ bs.length ∧ smallD x.2.2.1 ∧ smallD x.2.2.2.1 ∧ smallD x.2.2.2.2) ∧ Contract Try.prog true 101 [.own] [curT bs i0 h0] [regO x.2.2.1 x.2.2.2.1 x.2.2.2.2] [some (curT bs x.1 x.2.1)] := by
 refine mk_contractE [some [(1, 0)]] Try.func101 (c := Try.f101.body.get!) (by kernel_rfl) k101 r101 (of_decide_eq_true rfl) ?_
 unfold c101; unfold curT regO; simp
 obtain ⟨⟨c, r, e⟩, ⟨⟨l1, l2, l3⟩, s1, s2, s3⟩, hC0⟩ := w103
 simp only at l1 l2 l3 s1 s2 s3 hC0
 unfold regO at hC0
 refine callW_ms [] ?_
 simp
 refine callX_of hC0 (by simp) ?_
 simp
 obtain ⟨⟨i1, h1, y1⟩, ⟨a1, b1, c1⟩, hC1⟩ := w108 bs i0 h0 10 hb hi0
 simp only at a1 b1 c1 hC1
 unfold curT at hC1
 refine callW_ms [.own, .ro] ?_
 simp
 refine callX_of hC1 (by simp) ?_
 simp [l1, l2, l3]
 refine ⟨fun h => ?_, fun h => ?_⟩
 ·refine exK_of (i1, h1, c.take 3, r, []) ⟨a1, small_take s1 3, s2, small_nil⟩ ?_
  simp [offE]
 refine ⟨fun h => ?_, fun h => ?_⟩
 ·obtain ⟨⟨i2, h2, y2⟩, ⟨a2, b2, c2⟩, hC2⟩ := w108 bs i1 h1 4 hb a1
  simp only at a2 b2 c2 hC2
  unfold curT at hC2
  refine callW_ms [.own, .ro] ?_
  simp
  refine callX_of hC2 (by simp) ?_
  simp
  obtain ⟨⟨i3, h3, y3⟩, ⟨a3, b3, c3⟩, hC3⟩ := w108 bs i2 h2 4 hb a2
  simp only at a3 b3 c3 hC3
  unfold curT at hC3
  refine callW_ms [.own, .ro] ?_
  simp
  refine callX_of hC3 (by simp) ?_
  simp
  have hy := c2 (by omega)
  obtain ⟨d, hd⟩ : ∃ d, r[y2.toNat]? = some d := get_some (by omega)
  simp [hd, b2, dT_kind]
  refine ⟨hy, exK_of (i3, h3, c, r.modify y2.toNat (fun d => (d.1, IntKind.i64.wrap (1 + y3))), e) ⟨a3, s1, small_mod (f := fun d => (d.1, IntKind.i64.wrap (1 + y3))) (fun d h => h) _ s2, s3⟩ ?_⟩
  simp
 refine ⟨fun h => ?_, fun h => ?_⟩
 ·obtain ⟨⟨i2, h2, y2⟩, ⟨a2, b2, c2⟩, hC2⟩ := w108 bs i1 h1 5 hb a1
  simp only at a2 b2 c2 hC2
  unfold curT at hC2
  refine callW_ms [.own, .ro] ?_
  simp
  refine callX_of hC2 (by simp) ?_
  simp
  refine ⟨fun h => ?_, fun h => ?_⟩
  ·obtain ⟨d, hd⟩ : ∃ d, c[1]? = some d := get_some (by omega)
   simp [hd, l1, dT_name]
   refine exK_of (i2, h2, c.modify 1 (fun d => (⟨#[80, 111, 115]⟩, d.2)), r, e) ⟨a2, small_mod (f := fun d => (⟨#[80, 111, 115]⟩, d.2)) (fun d h => (by decide : (⟨#[80, 111, 115]⟩ : ByteArray).size ≤ 100)) _ s1, s2, s3⟩ ?_
   simp
  refine ⟨fun h => ?_, fun h => ?_⟩
  ·obtain ⟨⟨i3, h3, y3⟩, ⟨a3, b3⟩, hC3⟩ := w125 bs [0, 5] i2 h2 hb a2 (by simp) (by simp)
   simp only at a3 b3 hC3
   unfold curT at hC3
   refine callW_ms [.own, .own] ?_
   simp
   refine callX_of hC3 (by simp) ?_
   obtain ⟨d, hd⟩ : ∃ d, e[0]? = some d := get_some (by omega)
   simp [hd, l3, dT_kind]
   refine exK_of (i3, h3, c, r, e.modify 0 (fun d => (d.1, y3))) ⟨a3, s1, s2, small_mod (f := fun d => (d.1, y3)) (fun d h => h) _ s3⟩ ?_
   simp
  refine ⟨fun h => ?_, fun h => ?_⟩
  ·obtain ⟨⟨i3, h3, y3⟩, ⟨a3, b3⟩, hC3⟩ := w126 bs [⟨#[]⟩, ⟨#[97, 98, 99, 100, 101, 102, 103, 104, 105, 106, 107, 108, 109]⟩, ⟨#[97, 49]⟩, ⟨#[108, 101, 116]⟩] i2 h2 hb a2 (by simp) (by simp)
   simp only at a3 b3 hC3
   unfold curT at hC3
   refine callW_ms [.own, .own] ?_
   simp
   refine callX_of hC3 (by simp) ?_
   obtain ⟨d, hd⟩ : ∃ d, r[0]? = some d := get_some (by omega)
   simp [hd, l2, dT_name]
   refine exK_of (i3, h3, c, r.modify 0 (fun d => (y3, d.2)), e) ⟨a3, s1, small_mod (fun d h => (by decide : ∀ s ∈ ([⟨#[]⟩, ⟨#[97, 98, 99, 100, 101, 102, 103, 104, 105, 106, 107, 108, 109]⟩, ⟨#[97, 49]⟩, ⟨#[108, 101, 116]⟩] : List ByteArray), s.size ≤ 100) _ b3) _ s2, s3⟩ ?_
   simp
  refine ⟨fun h => ?_, fun h => ?_⟩
  ·refine twp_for 8 (fun j s => ∃ (L : DcP), smallD L ∧ L.length = 5 + j ∧ s.t 0 = .pt [(1, 0)] 0 0 ∧ s.t 2 = .pt [(4, 0)] 0 0 ∧ s.t 3 = .pt [(5, 0)] 0 0 ∧ s.t 4 = .i .i64 j ∧ s.H = lk [(1, [.po true [.sl false 1 (bs.map uT), .i .i64 i2, .i .i64 h2]]), (4, [.po true [.sl true 2 [], .sl true 2 [], .sl true 2 []]]), (5, [.po true [.sl true 2 (L.map dT), .sl true 2 (r.map dT), .sl true 2 (e.map dT)]])]) [8, 72, 76, 77] (by simp) ?_ ?_
   ·refine ⟨c, s1, by omega, ?_⟩
    simp
   ·rintro j s hj ⟨L, hL, hLl, q0, q2, q3, q4, qH⟩
    rw [nf_of qH]
    simp [q0, q2, q3, q4]
    refine ⟨fun hlt => ?_, fun hge => ?_⟩
    ·have hw : IntKind.i64.wrap ((j : Int) + 1) = j + 1 := wrap_id (by omega) (by omega)
     simp [elemsOf, bytesT, q0, q2, q3, q4, hw]
     refine ⟨by rw [xs_size]; omega, by omega, by omega, L ++ [(⟨#[88]⟩ ++ ⟨#[UInt8.ofNat (IntKind.u8.wrap (IntKind.i64.wrap (97 + (j : Int)))).toNat]⟩, 1)], small_snoc hL (by omega) (xa_size _), by simp; omega, by simp⟩
    ·refine exK_of (i2, h2, L, r, e) ⟨a2, hL, s2, s3⟩ ?_
     simp [q0, q2, q3]
  ·obtain ⟨d, hd⟩ : ∃ d, e[1]? = some d := get_some (by omega)
   simp [hd, l3, dT_name]
   refine exK_of (i2, h2, c, r, e.modify 1 (fun d => (⟨#[87, 105, 110, 100]⟩, d.2))) ⟨a2, s1, s2, small_mod (f := fun d => (⟨#[87, 105, 110, 100]⟩, d.2)) (fun d h => (by decide : (⟨#[87, 105, 110, 100]⟩ : ByteArray).size ≤ 100)) _ s3⟩ ?_
   simp
 refine ⟨fun h => ?_, fun h => ?_⟩
 ·refine twp_for 7 (fun j s => ∃ (L : DcP), smallD L ∧ L.length = 5 + j ∧ s.t 0 = .pt [(1, 0)] 0 0 ∧ s.t 2 = .pt [(4, 0)] 0 0 ∧ s.t 3 = .pt [(5, 0)] 0 0 ∧ s.t 5 = .i .i64 j ∧ s.H = lk [(1, [.po true [.sl false 1 (bs.map uT), .i .i64 i1, .i .i64 h1]]), (4, [.po true [.sl true 2 [], .sl true 2 [], .sl true 2 []]]), (5, [.po true [.sl true 2 (L.map dT), .sl true 2 (r.map dT), .sl true 2 (e.map dT)]])]) [8, 90, 97, 98] (by simp) ?_ ?_
  ·refine ⟨c, s1, by omega, ?_⟩
   simp
  ·rintro j s hj ⟨L, hL, hLl, q0, q2, q3, q5, qH⟩
   rw [nf_of qH]
   simp [q0, q2, q3, q5]
   refine ⟨fun hlt => ?_, fun hge => ?_⟩
   ·have hw : IntKind.i64.wrap ((j : Int) + 1) = j + 1 := wrap_id (by omega) (by omega)
    simp [elemsOf, bytesT, q0, q2, q3, q5, hw]
    refine ⟨by rw [xs_size]; omega, by omega, by omega, L ++ [(⟨#[88]⟩ ++ ⟨#[UInt8.ofNat (IntKind.u8.wrap (IntKind.i64.wrap (97 + (j : Int)))).toNat]⟩, IntKind.i64.wrap (1 + (j : Int).tmod 4))], small_snoc hL (by omega) (xa_size _), by simp; omega, by simp⟩
   ·refine exK_of (i1, h1, L, r, e) ⟨a1, hL, s2, s3⟩ ?_
    simp [q0, q2, q3]
 ·refine exK_of (i1, h1, c, r, e) ⟨a1, s1, s2, s3⟩ ?_
  simp
end Go.Proofs.YtehmdblkkpdmoaaT


namespace Go.Proofs.YtehmdblkkpdmoaaT
set_option linter.unusedVariables false
set_option linter.unusedSimpArgs false
open Go
def c130 : TCode := (.seq (.ops [⟨(some 3), 5, .box 3 (.t 1), none, []⟩, ⟨(some 4), 6, .mv (.c (.sl true 5 [])), none, []⟩])
 (.seq (.ops [⟨(some 10), 12, .bslice 5 0 [(.i .i64 0), (.i .i64 0), (.i .i64 0), (.f 0), (.f 0)] [], none, []⟩, ⟨(some 5), 7, .mv (.t 10), none, []⟩])
 (.seq (.ops [⟨(some 11), 13, .mv (.t 0), none, []⟩, ⟨(some 12), 14, .call 136 [((.t 11), 3)], none, []⟩, ⟨(some 6), 8, .mv (.t 12), none, []⟩])
 (.seq (.seq (.ops [⟨(some 13), 15, .mv (.t 0), none, []⟩, ⟨(some 14), 16, .call 105 [((.t 13), 3), ((.c (.i .i64 2)), 0)], none, []⟩])
 (.cond (.t 14)
 (.ops [⟨(some 15), 17, .mv (.t 0), none, []⟩, ⟨(some 16), 18, .bslice 1 4 [(.i .i64 0)] [(0, (.c (.i .i64 3))), (1, (.c (.i .i64 7))), (2, (.c (.i .i64 1))), (3, (.c (.i .i64 5)))], none, []⟩, ⟨(some 17), 19, .call 125 [((.t 15), 3), ((.t 16), 0)], none, []⟩, ⟨(some 6), 8, .mv (.t 17), none, []⟩])
 .skip))
 (.seq (.seq (.ops [⟨(some 7), 9, .mv (.c (.i .i64 0)), none, []⟩])
 (.block 0 (.loop (.seq (.seq (.ops [⟨(some 18), 20, .mv (.t 7), none, []⟩, ⟨(some 19), 21, .faddr 0 1 (.t 3), none, []⟩, ⟨(some 20), 22, .load false 1 (.t 19), none, []⟩, ⟨(some 21), 23, .len false (.t 20), none, []⟩, ⟨(some 22), 24, .bin .lss (.t 18) (.t 21), none, []⟩, ⟨(some 23), 25, .mv (.t 22), none, []⟩, ⟨(some 24), 26, .mv (.t 7), (some (23, true)), []⟩, ⟨(some 25), 27, .bin .lss (.t 24) (.c (.i .i64 8)), (some (23, true)), []⟩, ⟨(some 26), 28, .pick (.t 23) (.t 25) (.c (.b false)), none, []⟩])
 (.cond (.t 26)
 .skip
 (.exit 0)))
 (.seq (.block 1 (.seq (.ops [⟨(some 29), 31, .mv (.t 6), none, []⟩, ⟨(some 30), 32, .mv (.t 7), none, []⟩, ⟨(some 31), 33, .toInt .u64 (.t 30), none, []⟩, ⟨(some 32), 34, .bin .shr (.t 29) (.t 31), none, []⟩, ⟨(some 33), 35, .bin .and (.t 32) (.c (.i .i64 1)), none, []⟩, ⟨(some 34), 36, .bin .eql (.t 33) (.c (.i .i64 1)), none, []⟩])
 (.cond (.t 34)
 (.ops [⟨(some 35), 37, .mv (.t 5), none, []⟩, ⟨(some 36), 38, .mv (.t 7), none, []⟩, ⟨(some 37), 39, .mv (.t 0), none, []⟩, ⟨(some 38), 40, .faddr 0 1 (.t 3), none, []⟩, ⟨(some 39), 41, .load false 1 (.t 38), none, []⟩, ⟨(some 40), 42, .mv (.t 7), none, []⟩, ⟨(some 41), 43, .iaddr 2 (.t 39) (.t 40), none, []⟩, ⟨(some 42), 44, .faddr 1 1 (.t 41), none, []⟩, ⟨(some 43), 45, .load false 1 (.t 42), none, []⟩, ⟨(some 44), 46, .call 110 [((.t 37), 3), ((.t 43), 0)], none, []⟩, ⟨(some 45), 47, .build [(.i .i64 0), (.i .i64 0), (.i .i64 0), (.f 0), (.f 0)] [(0, 1, (.t 36)), (1, 4, (.t 44))], none, []⟩, ⟨(some 46), 48, .bslice 5 1 [(.i .i64 0), (.i .i64 0), (.i .i64 0), (.f 0), (.f 0)] [(0, (.t 45))], none, []⟩, ⟨(some 47), 49, .app 5 40 (.t 35) (.t 46), none, []⟩, ⟨(some 5), 7, .mv (.t 47), none, []⟩])
 .skip)))
 (.ops [⟨(some 27), 29, .mv (.t 7), none, []⟩, ⟨(some 28), 30, .bin .add (.t 27) (.c (.i .i64 1)), none, []⟩, ⟨(some 7), 9, .mv (.t 28), none, []⟩]))))))
 (.seq (.seq (.ops [⟨(some 48), 50, .mv (.t 0), none, []⟩, ⟨(some 49), 51, .call 105 [((.t 48), 3), ((.c (.i .i64 3)), 0)], none, []⟩, ⟨(some 50), 52, .mv (.t 49), none, []⟩, ⟨(some 51), 53, .mv (.t 5), (some (50, true)), []⟩, ⟨(some 52), 54, .len false (.t 51), (some (50, true)), []⟩, ⟨(some 53), 55, .bin .gtr (.t 52) (.c (.i .i64 1)), (some (50, true)), []⟩, ⟨(some 54), 56, .pick (.t 50) (.t 53) (.c (.b false)), none, []⟩])
 (.cond (.t 54)
 (.seq (.draw [⟨(some 55), 57, .mv (.t 5), none, []⟩, ⟨(some 56), 58, .iaddr 5 (.t 55) (.c (.i .i64 0)), none, []⟩, ⟨(some 57), 59, .load true 5 (.t 56), none, []⟩, ⟨(some 58), 60, .mv (.t 5), none, []⟩, ⟨(some 59), 61, .iaddr 5 (.t 58) (.c (.i .i64 1)), none, []⟩, ⟨(some 60), 62, .load true 5 (.t 59), none, []⟩, ⟨(some 8), 10, .box 5 (.c (.ag [(.i .i64 0), (.i .i64 0), (.i .i64 0), (.f 0), (.f 0)])), none, [0, 1, 2, 3, 4, 5]⟩, ⟨(some 9), 11, .box 5 (.c (.ag [(.i .i64 0), (.i .i64 0), (.i .i64 0), (.f 0), (.f 0)])), none, [0, 1, 2, 3, 4, 5, 6]⟩, ⟨none, 1011008, .store 5 (.t 8) (.t 57), none, [1000000, 3, 4, 5]⟩, ⟨none, 1011009, .store 5 (.t 9) (.t 60), none, []⟩])
 (.seq (.ops [⟨(some 61), 63, .mv (.t 5), none, []⟩, ⟨(some 62), 64, .load true 5 (.t 9), none, []⟩, ⟨(some 63), 65, .iaddr 5 (.t 61) (.c (.i .i64 0)), none, []⟩, ⟨none, 1012003, .store 5 (.t 63) (.t 62), none, []⟩])
 (.ops [⟨(some 64), 66, .mv (.t 5), none, []⟩, ⟨(some 65), 67, .load true 5 (.t 8), none, []⟩, ⟨(some 66), 68, .iaddr 5 (.t 64) (.c (.i .i64 1)), none, []⟩, ⟨none, 1013003, .store 5 (.t 66) (.t 65), none, []⟩])))
 .skip))
 (.seq (.ops [⟨(some 67), 69, .mv (.t 5), none, []⟩, ⟨(some 4), 6, .mv (.t 67), none, []⟩])
 .ret)))))))
theorem k130 : compCode Try.prog Try.f130.ntmps Try.f130.body.get! = some c130 := by kernel_rfl
theorem r130 : resTmps Try.prog Try.f130.results.toList = some [.tmp 4] := by kernel_rfl
def c107 : TCode := (.seq (.ops [⟨(some 3), 5, .box 2 (.t 1), none, []⟩, ⟨(some 4), 6, .box 2 (.c (.ag [(.i .i64 0), (.i .i64 0)])), none, []⟩])
 (.seq (.ops [⟨(some 7), 9, .mv (.t 0), none, []⟩, ⟨(some 8), 10, .faddr 0 1 (.t 3), none, []⟩, ⟨(some 9), 11, .load false 1 (.t 8), none, []⟩, ⟨(some 10), 12, .len false (.t 9), none, []⟩, ⟨(some 11), 13, .bin .add (.t 10) (.c (.i .i64 2)), none, []⟩, ⟨(some 12), 14, .call 108 [((.t 7), 3), ((.t 11), 0)], none, []⟩, ⟨(some 13), 15, .bin .sub (.t 12) (.c (.i .i64 1)), none, []⟩, ⟨(some 5), 7, .mv (.t 13), none, []⟩])
 (.seq (.ops [⟨(some 14), 16, .mv (.t 5), none, []⟩, ⟨(some 15), 17, .build [(.i .i64 0), (.i .i64 0)] [(0, 1, (.t 14))], none, []⟩, ⟨(some 6), 8, .box 2 (.c (.ag [(.i .i64 0), (.i .i64 0)])), none, []⟩, ⟨none, 1002003, .store 2 (.t 6) (.t 15), none, []⟩])
 (.seq (.seq (.ops [⟨(some 16), 18, .mv (.t 5), none, []⟩, ⟨(some 17), 19, .faddr 0 1 (.t 3), none, []⟩, ⟨(some 18), 20, .load false 1 (.t 17), none, []⟩, ⟨(some 19), 21, .len false (.t 18), none, []⟩, ⟨(some 20), 22, .bin .sub (.t 19) (.c (.i .i64 1)), none, []⟩, ⟨(some 21), 23, .call 38 [((.t 16), 0), ((.c (.i .i64 0)), 0), ((.t 20), 0)], none, []⟩])
 (.cond (.t 21)
 (.ops [⟨(some 22), 24, .faddr 0 1 (.t 3), none, []⟩, ⟨(some 23), 25, .load false 1 (.t 22), none, []⟩, ⟨(some 24), 26, .mv (.t 5), none, []⟩, ⟨(some 25), 27, .iaddr 1 (.t 23) (.t 24), none, []⟩, ⟨(some 26), 28, .load false 1 (.t 25), none, []⟩, ⟨(some 27), 29, .faddr 1 1 (.t 6), none, []⟩, ⟨none, 1004006, .store 1 (.t 27) (.t 26), none, []⟩])
 .skip))
 (.seq (.seq (.ops [⟨(some 28), 30, .mv (.t 0), none, []⟩, ⟨(some 29), 31, .call 105 [((.t 28), 3), ((.c (.i .i64 7)), 0)], none, []⟩])
 (.cond (.t 29)
 (.ops [⟨(some 30), 32, .faddr 1 1 (.t 6), none, []⟩, ⟨(some 31), 33, .load false 1 (.t 30), none, []⟩, ⟨(some 32), 34, .bin .sub (.t 31) (.c (.i .i64 1)), none, []⟩, ⟨(some 33), 35, .faddr 1 1 (.t 6), none, []⟩, ⟨none, 1006004, .store 1 (.t 33) (.t 32), none, []⟩])
 .skip))
 (.seq (.ops [⟨(some 34), 36, .load true 2 (.t 6), none, []⟩, ⟨none, 1007001, .store 2 (.t 4) (.t 34), none, []⟩])
 .ret))))))
theorem k107 : compCode Try.prog Try.f107.ntmps Try.f107.body.get! = some c107 := by kernel_rfl
theorem r107 : resTmps Try.prog Try.f107.results.toList = some [.cell 4 true 2] := by kernel_rfl
def c69 : TCode := (.seq (.ops [⟨(some 3), 5, .box 4 (.t 1), none, []⟩, ⟨(some 4), 6, .box 2 (.c (.ag [(.i .i64 0), (.i .i64 0)])), none, []⟩])
 (.seq (.ops [⟨(some 6), 8, .faddr 0 2 (.t 3), none, []⟩, ⟨(some 7), 9, .load true 2 (.t 6), none, []⟩, ⟨(some 8), 10, .call 28 [((.t 7), 0)], none, []⟩, ⟨(some 5), 7, .mv (.t 8), none, []⟩])
 (.seq (.seq (.ops [⟨(some 9), 11, .mv (.t 5), none, []⟩, ⟨(some 10), 12, .len false (.t 9), none, []⟩, ⟨(some 11), 13, .bin .eql (.t 10) (.c (.i .i64 0)), none, []⟩, ⟨(some 12), 14, .mv (.t 11), none, []⟩, ⟨(some 13), 15, .mv (.t 0), (some (12, false)), []⟩, ⟨(some 14), 16, .call 105 [((.t 13), 3), ((.c (.i .i64 9)), 0)], (some (12, false)), []⟩, ⟨(some 15), 17, .pick (.t 12) (.c (.b true)) (.t 14), none, []⟩])
 (.cond (.t 15)
 (.seq (.ops [⟨(some 16), 18, .mv (.t 0), none, []⟩, ⟨(some 17), 19, .faddr 0 2 (.t 3), none, []⟩, ⟨(some 18), 20, .load true 2 (.t 17), none, []⟩, ⟨(some 19), 21, .call 107 [((.t 16), 3), ((.t 18), 0)], none, []⟩, ⟨none, 1003004, .store 2 (.t 4) (.t 19), none, []⟩])
 .ret)
 .skip))
 (.seq (.ops [⟨(some 20), 22, .mv (.t 5), none, []⟩, ⟨(some 21), 23, .mv (.t 0), none, []⟩, ⟨(some 22), 24, .mv (.t 5), none, []⟩, ⟨(some 23), 25, .len false (.t 22), none, []⟩, ⟨(some 24), 26, .call 108 [((.t 21), 3), ((.t 23), 0)], none, []⟩, ⟨(some 25), 27, .iaddr 2 (.t 20) (.t 24), none, []⟩, ⟨(some 26), 28, .load true 2 (.t 25), none, []⟩, ⟨none, 1004007, .store 2 (.t 4) (.t 26), none, []⟩])
 .ret))))
theorem k69 : compCode Try.prog Try.f69.ntmps Try.f69.body.get! = some c69 := by kernel_rfl
theorem r69 : resTmps Try.prog Try.f69.results.toList = some [.cell 4 true 2] := by kernel_rfl
def c70 : TCode := (.seq (.ops [⟨(some 3), 5, .box 3 (.t 1), none, []⟩, ⟨(some 4), 6, .mv (.c (.i .i64 0)), none, []⟩, ⟨(some 5), 7, .box 4 (.c (.ag [(.i .i64 0), (.i .i64 0), (.f 0), (.f 0)])), none, []⟩])
 (.seq (.ops [⟨(some 8), 10, .mv (.t 0), none, []⟩, ⟨(some 9), 11, .faddr 0 1 (.t 3), none, []⟩, ⟨(some 10), 12, .load false 1 (.t 9), none, []⟩, ⟨(some 11), 13, .len false (.t 10), none, []⟩, ⟨(some 12), 14, .bin .add (.t 11) (.c (.i .i64 1)), none, []⟩, ⟨(some 13), 15, .call 108 [((.t 8), 3), ((.t 12), 0)], none, []⟩, ⟨(some 6), 8, .mv (.t 13), none, []⟩])
 (.seq (.seq (.ops [⟨(some 14), 16, .mv (.t 6), none, []⟩, ⟨(some 15), 17, .faddr 0 1 (.t 3), none, []⟩, ⟨(some 16), 18, .load false 1 (.t 15), none, []⟩, ⟨(some 17), 19, .len false (.t 16), none, []⟩, ⟨(some 18), 20, .bin .eql (.t 14) (.t 17), none, []⟩, ⟨(some 19), 21, .mv (.t 18), none, []⟩, ⟨(some 20), 22, .mv (.t 0), (some (19, true)), []⟩, ⟨(some 21), 23, .call 105 [((.t 20), 3), ((.c (.i .i64 2)), 0)], (some (19, true)), []⟩, ⟨(some 22), 24, .pick (.t 19) (.t 21) (.c (.b false)), none, []⟩])
 (.cond (.t 22)
 (.ops [⟨(some 6), 8, .mv (.c (.i .i64 (-1))), none, []⟩])
 .skip))
 (.seq (.ops [⟨(some 23), 25, .mv (.t 0), none, []⟩, ⟨(some 24), 26, .call 109 [((.t 23), 3)], none, []⟩, ⟨(some 7), 9, .box 4 (.c (.ag [(.i .i64 0), (.i .i64 0), (.f 0), (.f 0)])), none, []⟩, ⟨none, 1004003, .store 4 (.t 7) (.t 24), none, []⟩])
 (.seq (.seq (.ops [⟨(some 25), 27, .mv (.t 6), none, []⟩, ⟨(some 26), 28, .faddr 0 1 (.t 3), none, []⟩, ⟨(some 27), 29, .load false 1 (.t 26), none, []⟩, ⟨(some 28), 30, .len false (.t 27), none, []⟩, ⟨(some 29), 31, .bin .sub (.t 28) (.c (.i .i64 1)), none, []⟩, ⟨(some 30), 32, .call 38 [((.t 25), 0), ((.c (.i .i64 0)), 0), ((.t 29), 0)], none, []⟩, ⟨(some 31), 33, .mv (.t 30), none, []⟩, ⟨(some 32), 34, .mv (.t 0), (some (31, true)), []⟩, ⟨(some 33), 35, .call 105 [((.t 32), 3), ((.c (.i .i64 8)), 0)], (some (31, true)), []⟩, ⟨(some 34), 36, .un .not (.t 33), (some (31, true)), []⟩, ⟨(some 35), 37, .pick (.t 31) (.t 34) (.c (.b false)), none, []⟩, ⟨(some 36), 38, .mv (.t 35), none, []⟩, ⟨(some 37), 39, .faddr 0 1 (.t 3), (some (36, true)), []⟩, ⟨(some 38), 40, .load false 1 (.t 37), (some (36, true)), []⟩, ⟨(some 39), 41, .mv (.t 6), (some (36, true)), []⟩, ⟨(some 40), 42, .iaddr 2 (.t 38) (.t 39), (some (36, true)), []⟩, ⟨(some 41), 43, .faddr 1 1 (.t 40), (some (36, true)), []⟩, ⟨(some 42), 44, .load false 1 (.t 41), (some (36, true)), []⟩, ⟨(some 43), 45, .call 38 [((.t 42), 0), ((.c (.i .i64 1)), 0), ((.c (.i .i64 4)), 0)], (some (36, true)), []⟩, ⟨(some 44), 46, .pick (.t 36) (.t 43) (.c (.b false)), none, []⟩])
 (.cond (.t 44)
 (.ops [⟨(some 45), 47, .mv (.t 0), none, []⟩, ⟨(some 46), 48, .faddr 0 1 (.t 3), none, []⟩, ⟨(some 47), 49, .load false 1 (.t 46), none, []⟩, ⟨(some 48), 50, .mv (.t 6), none, []⟩, ⟨(some 49), 51, .iaddr 2 (.t 47) (.t 48), none, []⟩, ⟨(some 50), 52, .faddr 1 1 (.t 49), none, []⟩, ⟨(some 51), 53, .load false 1 (.t 50), none, []⟩, ⟨(some 52), 54, .call 110 [((.t 45), 3), ((.t 51), 0)], none, []⟩, ⟨none, 1006008, .store 4 (.t 7) (.t 52), none, []⟩])
 .skip))
 (.seq (.draw [⟨(some 53), 55, .mv (.t 6), none, []⟩, ⟨(some 54), 56, .load true 4 (.t 7), none, []⟩, ⟨(some 4), 6, .mv (.t 53), none, []⟩, ⟨none, 1007003, .store 4 (.t 5) (.t 54), none, []⟩])
 .ret))))))
theorem k70 : compCode Try.prog Try.f70.ntmps Try.f70.body.get! = some c70 := by kernel_rfl
theorem r70 : resTmps Try.prog Try.f70.results.toList = some [.tmp 4, .cell 5 true 4] := by kernel_rfl
theorem wrap_u64_nn (n : Int) : 0 ≤ IntKind.u64.wrap n := by
 simp [IntKind.wrap, IntKind.bits, IntKind.signed]
 try omega
theorem mod_clM {l : List CellP} {k : Nat} {y : CellP} (z : CellP) (hy : l[k]? = some y) :
  (((((l.map clT).modify k fun e => e.modify 0 fun x => TV.i .i64 z.1).modify k fun e => e.modify 1 fun x => TV.i .i64 z.2.1).modify k fun e => e.modify 2 fun x => TV.i .i64 z.2.2.1).modify k fun e => e.modify 3 fun x => TV.f z.2.2.2.1).modify k (fun e => e.modify 4 fun x => TV.f z.2.2.2.2) = (l.set k z).map clT := by
 rw [mod_mod, mod_mod, mod_mod, mod_mod]
 exact map_mod hy rfl
set_option maxHeartbeats 2000000 in
set_option maxRecDepth 100000 in
theorem w130 (bs : List Int) (i0 : Nat) (h0 : Int) (c r d : DcP) (hb : bs.length ≤ 2^40) (hi0 : i0 ≤ bs.length) (hc : c.length ≤ 20) : ∃ x : Nat × Int × List CellP, (x.1 ≤ bs.length ∧ x.2.2.length ≤ 8 ∧ vOkL x.2.2) ∧ Contract Try.prog true 130 [.own, .own] [curT bs i0 h0, regO c r d] [.sl true 5 (x.2.2.map clT)] [some (curT bs x.1 x.2.1), some (.sl true 2 (c.map dT)), some (.sl true 2 (r.map dT)), some (.sl true 2 (d.map dT))] := by
 refine mk_contractE [some [(1, 0)], some [(5, 0), (0, 0)], some [(5, 0), (0, 1)], some [(5, 0), (0, 2)]] Try.func130 (c := Try.f130.body.get!) (by kernel_rfl) k130 r130 (of_decide_eq_true rfl) ?_
 unfold c130; unfold curT regO; simp
 obtain ⟨⟨i1, h1, y1⟩, ⟨a1, b1, c1⟩, hC1⟩ := w136 bs i0 h0 hb hi0
 simp only at a1 b1 c1 hC1
 unfold curT at hC1
 refine callW_ms [.own] ?_
 simp
 refine callX_of hC1 (by simp) ?_
 simp
 obtain ⟨⟨i2, h2, y2⟩, a2, hC2⟩ := w105 bs i1 h1 2 hb a1
 simp only at a2 hC2
 unfold curT at hC2
 refine callW_ms [.own, .ro] ?_
 simp
 refine callX_of hC2 (by simp) ?_
 cases y2 with
 | false =>
  simp
  refine twp_forR c.length (fun j s => ∃ (i : Nat), i ≤ bs.length ∧ ∃ (h : Int) (Q : List CellP), (Q.length ≤ j ∧ Q.length ≤ 8 ∧ j ≤ 8 ∧ vOkL Q) ∧ s.t 0 = .pt [(1, 0)] 0 0 ∧ s.t 3 = .pt [(5, 0)] 0 0 ∧ s.t 5 = .rf [(49, 0)] 0 Q.length ∧ s.t 6 = .i .i64 y1 ∧ s.t 7 = .i .i64 j ∧ s.org [(5, 0), (0, 0)] = some 1 ∧ s.org [(5, 0), (0, 1)] = some 2 ∧ s.org [(5, 0), (0, 2)] = some 3 ∧ s.H = lk [(1, [.po true [.sl false 1 (bs.map uT), .i .i64 i, .i .i64 h], .junk, .junk, .junk]), (5, [.po true [.sl true 2 (c.map dT), .sl true 2 (r.map dT), .sl true 2 (d.map dT)]]), (49, [.sl true 5 (Q.map clT)])]) [18, 48] [(12, 49)] (by simp) (by simp) ?_ ?_
  ·refine ⟨i2, a2, h2, [], ⟨by simp, by simp, by omega, vOkL.nil⟩, ?_⟩
   simp [renO]
  ·rintro j s hj ⟨i, hi, h, Q, ⟨hQj, hQ8, hj8, hQv⟩, q0, q3, q5, q6, q7, o1, o2, o3, qH⟩
   rw [nf_of qH]
   have hw : IntKind.i64.wrap ((j : Int) + 1) = j + 1 := wrap_id (by omega) (by omega)
   cases hb9 : decide (j < c.length)
   ·simp [q0, q3, q5, q6, q7, o1, o2, o3, hb9]
    obtain ⟨⟨i5, h5, y5⟩, a5, hC5⟩ := w105 bs i h 3 hb hi
    simp only at a5 hC5
    unfold curT at hC5
    refine callW_ms [.own, .ro] ?_
    simp [q0, q3, q5, q6, q7, o1, o2, o3]
    refine callX_of hC5 (by simp) ?_
    cases y5 with
    | false =>
     simp [q0, q3, q5, q6, q7, o1, o2, o3]
     refine exK_of (i5, h5, Q) ⟨a5, hQ8, hQv⟩ ?_
     simp [o1, o2, o3]
    | true =>
     simp [q0, q3, q5, q6, q7, o1, o2, o3]
     refine ⟨fun hgt => ?_, fun hle => ?_⟩
     rotate_left
     ·refine exK_of (i5, h5, Q) ⟨a5, hQ8, hQv⟩ ?_
      simp [o1, o2, o3]
     ·obtain ⟨x, hx⟩ : ∃ x, Q[0]? = some x := get_some (by omega)
      obtain ⟨y, hy⟩ : ∃ y, Q[1]? = some y := get_some (by omega)
      refine ⟨by omega, ?_⟩
      simp [q0, q3, q5, q6, q7, o1, o2, o3, hx, hy]
      refine ⟨by omega, by omega, by omega, ?_⟩
      rw [mod_clM y hx, mod_clM x (y := y) (by rw [List.getElem?_set_ne (by omega)]; exact hy)]
      refine exK_of (i5, h5, (Q.set 0 y).set 1 x) ⟨a5, by simp only [List.length_set]; exact hQ8, (hQv.set (hQv y (List.mem_of_getElem? hy))).set (hQv x (List.mem_of_getElem? hx))⟩ ?_
      simp [o1, o2, o3]
   ·have hlt := of_decide_eq_true hb9
    obtain ⟨dc, hdc⟩ := get_some hlt
    cases hb8 : decide ((j : Int) < 8)
    ·have h8 := of_decide_eq_false hb8
     simp [q0, q3, q5, q6, q7, o1, o2, o3, hb9, hb8]
     obtain ⟨⟨i5, h5, y5⟩, a5, hC5⟩ := w105 bs i h 3 hb hi
     simp only at a5 hC5
     unfold curT at hC5
     refine callW_ms [.own, .ro] ?_
     simp [q0, q3, q5, q6, q7, o1, o2, o3]
     refine callX_of hC5 (by simp) ?_
     cases y5 with
     | false =>
      simp [q0, q3, q5, q6, q7, o1, o2, o3]
      refine exK_of (i5, h5, Q) ⟨a5, hQ8, hQv⟩ ?_
      simp [o1, o2, o3]
     | true =>
      simp [q0, q3, q5, q6, q7, o1, o2, o3]
      refine ⟨fun hgt => ?_, fun hle => ?_⟩
      rotate_left
      ·refine exK_of (i5, h5, Q) ⟨a5, hQ8, hQv⟩ ?_
       simp [o1, o2, o3]
      ·obtain ⟨x, hx⟩ : ∃ x, Q[0]? = some x := get_some (by omega)
       obtain ⟨y, hy⟩ : ∃ y, Q[1]? = some y := get_some (by omega)
       refine ⟨by omega, ?_⟩
       simp [q0, q3, q5, q6, q7, o1, o2, o3, hx, hy]
       refine ⟨by omega, by omega, by omega, ?_⟩
       rw [mod_clM y hx, mod_clM x (y := y) (by rw [List.getElem?_set_ne (by omega)]; exact hy)]
       refine exK_of (i5, h5, (Q.set 0 y).set 1 x) ⟨a5, by simp only [List.length_set]; exact hQ8, (hQv.set (hQv y (List.mem_of_getElem? hy))).set (hQv x (List.mem_of_getElem? hx))⟩ ?_
       simp [o1, o2, o3]
    ·have h8 := of_decide_eq_true hb8
     have hu0 : 0 ≤ IntKind.u64.wrap (j : Int) := wrap_u64_nn _
     simp [q0, q3, q5, q6, q7, o1, o2, o3, hb9, hb8]
     refine ⟨hu0, fun hb1 => ?_, fun hb1 => ?_⟩
     ·simp [q0, q3, q5, q6, q7, o1, o2, o3, hdc]
      refine ⟨hlt, ?_⟩
      obtain ⟨⟨i4, h4, v4⟩, ⟨a4, b4, c4⟩, hC4⟩ := w110 bs i h dc.2 hb hi
      simp only at a4 b4 hC4
      unfold curT valV at hC4
      refine callW_ms [.own, .ro] ?_
      simp [q0, q3, q5, q6, q7, o1, o2, o3, hdc]
      refine callX_of hC4 (by simp) ?_
      simp [q0, q3, q5, q6, q7, o1, o2, o3, hdc, hw, forK]
      refine ⟨by omega, hlt, i4, a4, h4, Q ++ [((j : Int), v4)], ⟨by simp; omega, by simp; omega, by omega, hQv.snoc b4⟩, ?_⟩
      simp
     ·simp [q0, q3, q5, q6, q7, o1, o2, o3, hw, forK]
      refine ⟨hlt, i, hi, h, Q, ⟨by omega, hQ8, by omega, hQv⟩, ?_⟩
      simp [q0, q3, q5, q6, q7, o1, o2, o3, hw]
 | true =>
  simp
  obtain ⟨⟨i3, h3, y3⟩, ⟨a3, b3⟩, hC3⟩ := w125 bs [3, 7, 1, 5] i2 h2 hb a2 (by simp) (by simp)
  simp only at a3 b3 hC3
  unfold curT at hC3
  refine callW_ms [.own, .own] ?_
  simp
  refine callX_of hC3 (by simp) ?_
  simp
  refine twp_forR c.length (fun j s => ∃ (i : Nat), i ≤ bs.length ∧ ∃ (h : Int) (Q : List CellP), (Q.length ≤ j ∧ Q.length ≤ 8 ∧ j ≤ 8 ∧ vOkL Q) ∧ s.t 0 = .pt [(1, 0)] 0 0 ∧ s.t 3 = .pt [(5, 0)] 0 0 ∧ s.t 5 = .rf [(49, 0)] 0 Q.length ∧ s.t 6 = .i .i64 y3 ∧ s.t 7 = .i .i64 j ∧ s.org [(5, 0), (0, 0)] = some 1 ∧ s.org [(5, 0), (0, 1)] = some 2 ∧ s.org [(5, 0), (0, 2)] = some 3 ∧ s.H = lk [(1, [.po true [.sl false 1 (bs.map uT), .i .i64 i, .i .i64 h], .junk, .junk, .junk]), (5, [.po true [.sl true 2 (c.map dT), .sl true 2 (r.map dT), .sl true 2 (d.map dT)]]), (49, [.sl true 5 (Q.map clT)])]) [18, 48] [(12, 49)] (by simp) (by simp) ?_ ?_
  ·refine ⟨i3, a3, h3, [], ⟨by simp, by simp, by omega, vOkL.nil⟩, ?_⟩
   simp [renO]
  ·rintro j s hj ⟨i, hi, h, Q, ⟨hQj, hQ8, hj8, hQv⟩, q0, q3, q5, q6, q7, o1, o2, o3, qH⟩
   rw [nf_of qH]
   have hw : IntKind.i64.wrap ((j : Int) + 1) = j + 1 := wrap_id (by omega) (by omega)
   cases hb9 : decide (j < c.length)
   ·simp [q0, q3, q5, q6, q7, o1, o2, o3, hb9]
    obtain ⟨⟨i5, h5, y5⟩, a5, hC5⟩ := w105 bs i h 3 hb hi
    simp only at a5 hC5
    unfold curT at hC5
    refine callW_ms [.own, .ro] ?_
    simp [q0, q3, q5, q6, q7, o1, o2, o3]
    refine callX_of hC5 (by simp) ?_
    cases y5 with
    | false =>
     simp [q0, q3, q5, q6, q7, o1, o2, o3]
     refine exK_of (i5, h5, Q) ⟨a5, hQ8, hQv⟩ ?_
     simp [o1, o2, o3]
    | true =>
     simp [q0, q3, q5, q6, q7, o1, o2, o3]
     refine ⟨fun hgt => ?_, fun hle => ?_⟩
     rotate_left
     ·refine exK_of (i5, h5, Q) ⟨a5, hQ8, hQv⟩ ?_
      simp [o1, o2, o3]
     ·obtain ⟨x, hx⟩ : ∃ x, Q[0]? = some x := get_some (by omega)
      obtain ⟨y, hy⟩ : ∃ y, Q[1]? = some y := get_some (by omega)
      refine ⟨by omega, ?_⟩
      simp [q0, q3, q5, q6, q7, o1, o2, o3, hx, hy]
      refine ⟨by omega, by omega, by omega, ?_⟩
      rw [mod_clM y hx, mod_clM x (y := y) (by rw [List.getElem?_set_ne (by omega)]; exact hy)]
      refine exK_of (i5, h5, (Q.set 0 y).set 1 x) ⟨a5, by simp only [List.length_set]; exact hQ8, (hQv.set (hQv y (List.mem_of_getElem? hy))).set (hQv x (List.mem_of_getElem? hx))⟩ ?_
      simp [o1, o2, o3]
   ·have hlt := of_decide_eq_true hb9
    obtain ⟨dc, hdc⟩ := get_some hlt
    cases hb8 : decide ((j : Int) < 8)
    ·have h8 := of_decide_eq_false hb8
     simp [q0, q3, q5, q6, q7, o1, o2, o3, hb9, hb8]
     obtain ⟨⟨i5, h5, y5⟩, a5, hC5⟩ := w105 bs i h 3 hb hi
     simp only at a5 hC5
     unfold curT at hC5
     refine callW_ms [.own, .ro] ?_
     simp [q0, q3, q5, q6, q7, o1, o2, o3]
     refine callX_of hC5 (by simp) ?_
     cases y5 with
     | false =>
      simp [q0, q3, q5, q6, q7, o1, o2, o3]
      refine exK_of (i5, h5, Q) ⟨a5, hQ8, hQv⟩ ?_
      simp [o1, o2, o3]
     | true =>
      simp [q0, q3, q5, q6, q7, o1, o2, o3]
      refine ⟨fun hgt => ?_, fun hle => ?_⟩
      rotate_left
      ·refine exK_of (i5, h5, Q) ⟨a5, hQ8, hQv⟩ ?_
       simp [o1, o2, o3]
      ·obtain ⟨x, hx⟩ : ∃ x, Q[0]? = some x := get_some (by omega)
       obtain ⟨y, hy⟩ : ∃ y, Q[1]? = some y := get_some (by omega)
       refine ⟨by omega, ?_⟩
       simp [q0, q3, q5, q6, q7, o1, o2, o3, hx, hy]
       refine ⟨by omega, by omega, by omega, ?_⟩
       rw [mod_clM y hx, mod_clM x (y := y) (by rw [List.getElem?_set_ne (by omega)]; exact hy)]
       refine exK_of (i5, h5, (Q.set 0 y).set 1 x) ⟨a5, by simp only [List.length_set]; exact hQ8, (hQv.set (hQv y (List.mem_of_getElem? hy))).set (hQv x (List.mem_of_getElem? hx))⟩ ?_
       simp [o1, o2, o3]
    ·have h8 := of_decide_eq_true hb8
     have hu0 : 0 ≤ IntKind.u64.wrap (j : Int) := wrap_u64_nn _
     simp [q0, q3, q5, q6, q7, o1, o2, o3, hb9, hb8]
     refine ⟨hu0, fun hb1 => ?_, fun hb1 => ?_⟩
     ·simp [q0, q3, q5, q6, q7, o1, o2, o3, hdc]
      refine ⟨hlt, ?_⟩
      obtain ⟨⟨i4, h4, v4⟩, ⟨a4, b4, c4⟩, hC4⟩ := w110 bs i h dc.2 hb hi
      simp only at a4 b4 hC4
      unfold curT valV at hC4
      refine callW_ms [.own, .ro] ?_
      simp [q0, q3, q5, q6, q7, o1, o2, o3, hdc]
      refine callX_of hC4 (by simp) ?_
      simp [q0, q3, q5, q6, q7, o1, o2, o3, hdc, hw, forK]
      refine ⟨by omega, hlt, i4, a4, h4, Q ++ [((j : Int), v4)], ⟨by simp; omega, by simp; omega, by omega, hQv.snoc b4⟩, ?_⟩
      simp
     ·simp [q0, q3, q5, q6, q7, o1, o2, o3, hw, forK]
      refine ⟨hlt, i, hi, h, Q, ⟨by omega, hQ8, by omega, hQv⟩, ?_⟩
      simp [q0, q3, q5, q6, q7, o1, o2, o3, hw]
set_option maxRecDepth 100000 in
theorem w107 (bs : List Int) (i0 : Nat) (h0 : Int) (g f : List Int) (hb : bs.length ≤ 2^40) (hi0 : i0 ≤ bs.length) (hg : g.length ≤ 2^36) : ∃ x : Nat × Int × Int × Int, (x.1 ≤ bs.length) ∧ Contract Try.prog true 107 [.own, .own] [curT bs i0 h0, entsO g f] [.ag (eT x.2.2)] [some (curT bs x.1 x.2.1), some (.sl true 1 (g.map iT)), some (.sl true 1 (f.map iT))] := by
 refine mk_contractE [some [(1, 0)], some [(5, 0), (0, 0)], some [(5, 0), (0, 1)]] Try.func107 (c := Try.f107.body.get!) (by kernel_rfl) k107 r107 (of_decide_eq_true rfl) ?_
 unfold c107; unfold curT entsO; simp
 have hw : IntKind.i64.wrap ((g.length : Int) + 2) = g.length + 2 := wrap_id (by omega) (by omega)
 have hw1 : IntKind.i64.wrap ((g.length : Int) - 1) = g.length - 1 := wrap_id (by omega) (by omega)
 simp [hw]
 obtain ⟨⟨i1, h1, y1⟩, ⟨a1, b1, c1⟩, hC1⟩ := w108 bs i0 h0 ((g.length : Int) + 2) hb hi0
 simp only at a1 b1 c1 hC1
 unfold curT at hC1
 refine callW_ms [.own, .ro] ?_
 simp
 refine callX_of hC1 (by simp) ?_
 simp
 have c2 := c1 (by omega)
 have hw2 : IntKind.i64.wrap (y1 - 1) = y1 - 1 := wrap_id (by omega) (by omega)
 simp [hw1, hw2]
 by_cases hin : 0 ≤ y1 - 1 ∧ y1 - 1 ≤ (g.length : Int) - 1
 ·obtain ⟨z, hz⟩ : ∃ z, g[y1.toNat - 1]? = some z := get_some (by omega)
  refine callW_ms [.ro, .ro, .ro] ?_
  simp
  refine callX_of ((w38 (y1 - 1) 0 ((g.length : Int) - 1)).t hin) (by simp) ?_
  simp [hz]
  refine ⟨by omega, by omega, ?_⟩
  obtain ⟨⟨i2, h2, y2⟩, a2, hC2⟩ := w105 bs i1 h1 7 hb a1
  simp only at a2 hC2
  unfold curT at hC2
  refine callW_ms [.own, .ro] ?_
  simp
  refine callX_of hC2 (by simp) ?_
  cases y2 with
  | false =>
   simp
   refine exK_of (i2, h2, y1 - 1, z) a2 ?_
   simp
  | true =>
   simp
   refine exK_of (i2, h2, y1 - 1, IntKind.i64.wrap (z - 1)) a2 ?_
   simp
 ·refine callW_ms [.ro, .ro, .ro] ?_
  simp
  refine callX_of ((w38 (y1 - 1) 0 ((g.length : Int) - 1)).f hin) (by simp) ?_
  simp
  obtain ⟨⟨i2, h2, y2⟩, a2, hC2⟩ := w105 bs i1 h1 7 hb a1
  simp only at a2 hC2
  unfold curT at hC2
  refine callW_ms [.own, .ro] ?_
  simp
  refine callX_of hC2 (by simp) ?_
  cases y2 with
  | false =>
   simp
   refine exK_of (i2, h2, y1 - 1, 0) a2 ?_
   simp
  | true =>
   simp
   refine exK_of (i2, h2, y1 - 1, IntKind.i64.wrap (0 - 1)) a2 ?_
   simp
set_option maxRecDepth 100000 in
theorem w69 (bs : List Int) (i0 : Nat) (h0 : Int) (g f : List Int) (ts : List TableP) (rs : List ValP) (hb : bs.length ≤ 2^40) (hi0 : i0 ≤ bs.length) (hg : g.length ≤ 2^36) (hf : f.length ≤ 2^36) : ∃ x : Nat × Int × Int × Int, (x.1 ≤ bs.length) ∧ Contract Try.prog true 69 [.own, .own] [curT bs i0 h0, worldO g f ts rs] [.ag (eT x.2.2)] [some (curT bs x.1 x.2.1), some (.sl true 1 (g.map iT)), some (.sl true 1 (f.map iT)), some (.sl true 3 (ts.map tbO)), some (.sl true 4 (rs.map vT))] := by
 refine mk_contractE [some [(1, 0)], some [(5, 0), (0, 0)], some [(5, 0), (0, 1)], some [(5, 0), (0, 2)], some [(5, 0), (0, 3)]] Try.func69 (c := Try.f69.body.get!) (by kernel_rfl) k69 r69 (of_decide_eq_true rfl) ?_
 have hL := w28 g f (by omega) (by omega)
 unfold entsR at hL
 have hLl : (entListF g f).length ≤ 2^36 := Nat.le_trans (entListF_len g f) hg
 unfold c69; unfold curT; simp
 refine callW_ms [.ro] ?_
 simp
 refine callX_of hL (by simp) ?_
 generalize entListF g f = L at *
 by_cases hL0 : L = []
 ·subst hL0
  simp
  obtain ⟨⟨i1, h1, e1⟩, a1, hC1⟩ := w107 bs i0 h0 g f hb hi0 hg
  simp only at a1 hC1
  unfold curT entsO at hC1
  refine callW_ms [.own, .own] ?_
  simp
  refine callX_of hC1 (by simp) ?_
  simp
  refine exK_of (i1, h1, e1) a1 ?_
  simp
 ·have hpos : 0 < L.length := List.length_pos_iff.2 hL0
  have hne : ¬ ((L.length : Int) = 0) := by omega
  simp [hne, hL0]
  obtain ⟨⟨i1, h1, y1⟩, a1, hC1⟩ := w105 bs i0 h0 9 hb hi0
  simp only at a1 hC1
  unfold curT at hC1
  refine callW_ms [.own, .ro] ?_
  simp
  refine callX_of hC1 (by simp) ?_
  cases y1 with
  | true =>
   simp
   obtain ⟨⟨i2, h2, e2⟩, a2, hC2⟩ := w107 bs i1 h1 g f hb a1 hg
   simp only at a2 hC2
   unfold curT entsO at hC2
   refine callW_ms [.own, .own] ?_
   simp
   refine callX_of hC2 (by simp) ?_
   simp
   refine exK_of (i2, h2, e2) a2 ?_
   simp
  | false =>
   simp
   obtain ⟨⟨i2, h2, y2⟩, ⟨a2, b2, c2⟩, hC2⟩ := w108 bs i1 h1 (L.length : Int) hb a1
   simp only at a2 b2 c2 hC2
   unfold curT at hC2
   refine callW_ms [.own, .ro] ?_
   simp
   refine callX_of hC2 (by simp) ?_
   simp
   have c3 := c2 (by omega)
   obtain ⟨e, he⟩ : ∃ e, L[y2.toNat]? = some e := get_some (by omega)
   simp [he]
   refine ⟨b2, c3, exK_of (i2, h2, e) a2 ?_⟩
   simp
set_option maxRecDepth 100000 in
theorem w70 (bs : List Int) (i0 : Nat) (h0 : Int) (c r d : DcP) (hb : bs.length ≤ 2^40) (hi0 : i0 ≤ bs.length) (hc : c.length ≤ 20) : ∃ x : Nat × Int × CellP, (x.1 ≤ bs.length ∧ valOkF x.2.2.2) ∧ Contract Try.prog true 70 [.own, .own] [curT bs i0 h0, regO c r d] [.i .i64 x.2.2.1, valV x.2.2.2] [some (curT bs x.1 x.2.1), some (.sl true 2 (c.map dT)), some (.sl true 2 (r.map dT)), some (.sl true 2 (d.map dT))] := by
 refine mk_contractE [some [(1, 0)], some [(5, 0), (0, 0)], some [(5, 0), (0, 1)], some [(5, 0), (0, 2)]] Try.func70 (c := Try.f70.body.get!) (by kernel_rfl) k70 r70 (of_decide_eq_true rfl) ?_
 unfold c70; unfold curT regO; simp
 have hw : IntKind.i64.wrap ((c.length : Int) + 1) = c.length + 1 := wrap_id (by omega) (by omega)
 have hw1 : IntKind.i64.wrap ((c.length : Int) - 1) = c.length - 1 := wrap_id (by omega) (by omega)
 simp [hw]
 obtain ⟨⟨i1, h1, k⟩, ⟨a1, b1, c1⟩, hC1⟩ := w108 bs i0 h0 ((c.length : Int) + 1) hb hi0
 simp only at a1 b1 c1 hC1
 unfold curT at hC1
 refine callW_ms [.own, .ro] ?_
 simp
 refine callX_of hC1 (by simp) ?_
 simp
 have c2 := c1 (by omega)
 by_cases hk : k = (c.length : Int)
 ·subst hk
  simp
  obtain ⟨⟨i2, h2, y2⟩, a2, hC2⟩ := w105 bs i1 h1 2 hb a1
  simp only at a2 hC2
  unfold curT at hC2
  refine callW_ms [.own, .ro] ?_
  simp
  refine callX_of hC2 (by simp) ?_
  cases y2 with
  | true =>
   simp
   obtain ⟨⟨i3, h3, v3⟩, ⟨a3, b3, c3⟩, hC3⟩ := w109 bs i2 h2 hb a2
   simp only at a3 b3 hC3
   unfold curT valV at hC3
   refine callW_ms [.own] ?_
   simp
   refine callX_of hC3 (by simp) ?_
   simp [hw1]
   refine callW_ms [.ro, .ro, .ro] ?_
   simp
   refine callX_of ((w38 (-1) 0 ((c.length : Int) - 1)).f (by omega)) (by simp) ?_
   simp
   refine exK_of (i3, h3, ((-1), v3)) ⟨a3, b3⟩ ?_
   simp [valV]
  | false =>
   simp
   obtain ⟨⟨i3, h3, v3⟩, ⟨a3, b3, c3⟩, hC3⟩ := w109 bs i2 h2 hb a2
   simp only at a3 b3 hC3
   unfold curT valV at hC3
   refine callW_ms [.own] ?_
   simp
   refine callX_of hC3 (by simp) ?_
   simp [hw1]
   refine callW_ms [.ro, .ro, .ro] ?_
   simp
   refine callX_of ((w38 (c.length : Int) 0 ((c.length : Int) - 1)).f (by omega)) (by simp) ?_
   simp
   refine exK_of (i3, h3, ((c.length : Int), v3)) ⟨a3, b3⟩ ?_
   simp [valV]
 ·simp [hk]
  obtain ⟨⟨i3, h3, v3⟩, ⟨a3, b3, c3⟩, hC3⟩ := w109 bs i1 h1 hb a1
  simp only at a3 b3 hC3
  unfold curT valV at hC3
  refine callW_ms [.own] ?_
  simp
  refine callX_of hC3 (by simp) ?_
  simp [hw1]
  have hin : 0 ≤ k ∧ k ≤ (c.length : Int) - 1 := by omega
  obtain ⟨dc, hdc⟩ : ∃ dc, c[k.toNat]? = some dc := get_some (by omega)
  have hkl : k.toNat < c.length := by omega
  refine callW_ms [.ro, .ro, .ro] ?_
  simp
  refine callX_of ((w38 k 0 ((c.length : Int) - 1)).t hin) (by simp) ?_
  simp [hdc, hw1, b1]
  obtain ⟨⟨i4, h4, y4⟩, a4, hC4⟩ := w105 bs i3 h3 8 hb a3
  simp only at a4 hC4
  unfold curT at hC4
  refine callW_ms [.own, .ro] ?_
  simp
  refine callX_of hC4 (by simp) ?_
  cases y4 with
  | true =>
   simp
   refine exK_of (i4, h4, (k, v3)) ⟨a4, b3⟩ ?_
   simp [valV]
  | false =>
   simp [hdc, b1, hin.1]
   refine ⟨by omega, ?_⟩
   by_cases hkd : 1 ≤ dc.2 ∧ dc.2 ≤ 4
   ·refine callW_ms [.ro, .ro, .ro] ?_
    simp
    refine callX_of ((w38 dc.2 1 4).t hkd) (by simp) ?_
    simp [hdc, b1]
    refine ⟨by omega, ?_⟩
    obtain ⟨⟨i5, h5, v5⟩, ⟨a5, b5, c5⟩, hC5⟩ := w110 bs i4 h4 dc.2 hb a4
    simp only at a5 b5 hC5
    unfold curT valV at hC5
    refine callW_ms [.own, .ro] ?_
    simp
    refine callX_of hC5 (by simp) ?_
    simp
    refine exK_of (i5, h5, (k, v5)) ⟨a5, b5⟩ ?_
    simp [valV]
   ·refine callW_ms [.ro, .ro, .ro] ?_
    simp
    refine callX_of ((w38 dc.2 1 4).f hkd) (by simp) ?_
    simp
    refine exK_of (i4, h4, (k, v3)) ⟨a4, b3⟩ ?_
    simp [valV]
end Go.Proofs.YtehmdblkkpdmoaaT


namespace Go.Proofs.YtehmdblkkpdmoaaT
set_option linter.unusedVariables false
set_option linter.unusedSimpArgs false
open Go
theorem no_tb {a : List (List TV)} {T : List TableP} (h : a = T.map tbO) : a = T.map tbO ∧ noROLL a = true := ⟨h, by rw [h]; simp⟩
set_option maxHeartbeats 4000000 in
set_option maxRecDepth 100000 in
theorem w132 (g f : List Int) (ts : List TableP) (rs : List ValP) (i k : Nat) (t : TableP) (e : Int × Int) (c : CellP) (hg : g.length ≤ 2^36) (hf : f.length ≤ 2^36) (hrs : rs.length ≤ 2^36) (E : EvenP ts) (P : AtP ts i k t e) (hlv : liveP g f e.1 e.2) : Contract Try.prog false 132 [.own, .ro, .ro, .ro] [worldO g f ts rs, .ag (eT e), .i .i64 c.1, valV c.2] [worldO g f (putTs ts i k t e c).1 rs, .i .i64 (putTs ts i k t e c).2] [none, none, none, none] := by
 refine mk_contract [none, none, none, none] Try.func132 (c := Try.f132.body.get!) (by kernel_rfl) k132 r132 (of_decide_eq_true rfl) fun _ => ?_
 have hok : okW (g, f, ts, rs) := ⟨hg, hf, ⟨by have := E.n; simp only; omega, E.okT⟩, hrs⟩
 have hW := w54 (g, f, ts, rs) e hok
 simp only [P.hw] at hW
 have hlive := (w53 g f e.1 e.2 (by omega) (by omega)).t hlv
 simp only [entsR, entT] at hlive
 have ht := P.ht
 have hm := List.mem_of_getElem? ht
 have hil := (List.getElem?_eq_some_iff.1 ht).1
 have hkl : k < t.2.1.length := (List.getElem?_eq_some_iff.1 P.he).1
 have hn := E.n
 have hA := w55 t.1 c.1 (by have := E.c t hm; omega)
 have hidx := idx_lt (l := t.1) (x := c.1)
 have hR := w144 g f ts rs i k t (by omega) ht (by have := E.c t hm; omega) (E.s t hm) (E.v t hm) hkl
 have hrl := rowL_len (k := k) (E.s t hm)
 have hc30 := E.c t hm
 unfold putTs
 generalize hix : idxF t.1 c.1 = ix at *
 obtain ⟨M, hM⟩ : ∃ M, M = rowL t k := ⟨_, rfl⟩
 rw [← hM] at hR hrl ⊢
 by_cases hx0 : 0 ≤ ix
 ·rw [if_pos hx0]
  obtain ⟨vs, hvs⟩ : ∃ vs, t.2.2[ix.toNat]? = some vs := get_some (by rw [E.s t hm]; exact hidx hx0)
  have hvl := E.v t hm vs (List.mem_of_getElem? hvs)
  obtain ⟨v0, hv0⟩ : ∃ v, vs[k]? = some v := get_some (by omega)
  obtain ⟨TS, hTS⟩ : ∃ TS, TS = setTs ts i k ix.toNat c.2 := ⟨_, rfl⟩
  rw [← hTS]
  unfold c132; unfold valV; simp
  refine callW_ms [.ro, .ro] ?_
  simp
  refine callX_of hlive (by simp) ?_
  simp
  refine callW_ms [.ro, .ro] ?_
  simp
  refine callX_of hW (by simp) ?_
  simp [ht]
  refine ⟨hil, ?_⟩
  refine callW_ms [.ro, .ro] ?_
  simp [ht]
  refine callX_of hA (by simp) ?_
  simp [ht, hx0, hvs, hv0]
  have hixl : ix.toNat < t.2.2.length := (List.getElem?_eq_some_iff.1 hvs).1
  refine ⟨hil, by omega, by omega, ?_⟩
  refine no_tb ?_
  rw [mod_mod, mod_mod, mod_mod, hTS]
  unfold setTs
  refine map_mod2 ht ?_
  simp only [tbO]
  show [TV.sl true 1 (t.1.map iT), TV.sl true 2 (t.2.1.map eT), TV.sl true 1 (((((t.2.2.map cvO).modify ix.toNat _).modify ix.toNat _).modify ix.toNat _).modify ix.toNat _)] = _
  rw [mod_mod, mod_mod, mod_mod]
  congr 4
  refine map_mod2 hvs ?_
  simp only [cvO]
  show [TV.sl true 4 (((((vs.map vT).modify k _).modify k _).modify k _).modify k _)] = _
  rw [mod_vT c.2 hv0]
 ·rw [if_neg hx0]
  have hlM := insC_len c M
  obtain ⟨TS, hTS⟩ : ∃ TS : List TableP × Int, TS = if fullT ts (colsOf (insC c M)) then (ts, 3) else (moveTs ts i k e (insC c M), 0) := ⟨_, rfl⟩
  rw [← hTS]
  have hMv : Contract Try.prog false 145 [.own, .ro, .ro, .ro] [worldO g f ts rs, .i .i64 i, .i .i64 k, .sl false 5 ((insC c M).map clT)] [worldO g f TS.1 rs, .i .i64 TS.2] [none, none, none, none] := by
   rw [hTS]
   by_cases hfu : fullT ts (colsOf (insC c M))
   ·rw [if_pos hfu]
    exact W145f g f ts rs i k (insC c M) (fun t ht => by have := E.c t ht; omega) hn (by omega) hfu
   ·rw [if_neg hfu]
    refine w145 g f ts rs i k (insC c M) t e (fun t ht => by have := E.c t ht; omega) hn (by omega) hfu ht P.he ?_ E.r E.s E.v
    intro h
    have := congrArg List.length h
    simp [colsOf, hlM] at this
    omega
  unfold c132; unfold valV; simp
  refine callW_ms [.ro, .ro] ?_
  simp
  refine callX_of hlive (by simp) ?_
  simp
  refine callW_ms [.ro, .ro] ?_
  simp
  refine callX_of hW (by simp) ?_
  simp [ht]
  refine ⟨hil, ?_⟩
  refine callW_ms [.ro, .ro] ?_
  simp [ht]
  refine callX_of hA (by simp) ?_
  simp [ht, hx0]
  refine callW_ms [.ro, .ro, .ro] ?_
  simp
  refine callX_of hR (by simp) ?_
  simp
  refine twp_forR M.length (fun j s => ∃ (Q : List CellP) (dn : Bool), putUp c M j Q dn ∧ s.t 2 = .i .i64 c.1 ∧ s.t 4 = .pt [(6, 0)] 0 0 ∧ s.t 7 = .pt [(9, 0)] 0 0 ∧ s.t 8 = .pt [(10, 0)] 0 0 ∧ s.t 10 = .i .i64 i ∧ s.t 11 = .i .i64 k ∧ s.t 13 = .rf [(88, 0)] 0 Q.length ∧ s.t 14 = .rf [(58, 0)] 0 M.length ∧ s.t 15 = .b dn ∧ s.t 16 = .i .i64 j ∧ s.H = lk [(1, [.junk, .junk, .junk, .junk]), (6, [.po true [.sl true 1 (g.map iT), .sl true 1 (f.map iT), .sl true 3 (ts.map tbO), .sl true 4 (rs.map vT)]]), (7, [.po true [.i .i64 e.1, .i .i64 e.2]]), (9, [.po true [.i .i64 c.2.1, .i .i64 c.2.2.1, .f c.2.2.2.1, .f c.2.2.2.2]]), (10, [.po true [.sl true 1 [], .sl true 1 [], .sl true 3 [], .sl true 4 []]]), (88, [.sl true 5 (Q.map clT)]), (58, [.sl true 5 (M.map clT)])]) [80, 81, 87] [(54, 88)] (by simp) (by simp) ?_ ?_
  ·refine ⟨[], false, putUp.zero c M, ?_⟩
   simp
  ·rintro j s hj ⟨Q, dn, hQ, q2, q4, q7, q8, q10, q11, q13, q14, q15, q16, qH⟩
   rw [nf_of qH]
   have hQl := hQ.len
   have hw : IntKind.i64.wrap ((j : Int) + 1) = j + 1 := wrap_id (by omega) (by omega)
   cases hb9 : decide (j < M.length)
   ·have hge := of_decide_eq_false hb9
    obtain rfl : j = M.length := by omega
    cases dn with
    | true =>
     have hQ2 := hQ.done
     subst hQ2
     simp [q2, q4, q7, q8, q10, q11, q13, q14, q15, q16, hb9]
     refine callW_ms [.own, .ro, .ro, .ro] ?_
     simp
     refine callX_of hMv (by simp) ?_
     simp [q8]
    | false =>
     have hQ2 := hQ.last
     simp [q2, q4, q7, q8, q10, q11, q13, q14, q15, q16, hb9]
     refine ⟨by omega, ?_⟩
     have eQ : List.map clT Q ++ [[TV.i .i64 c.1, TV.i .i64 c.2.1, TV.i .i64 c.2.2.1, TV.f c.2.2.2.1, TV.f c.2.2.2.2]] = (insC c M).map clT := by rw [← hQ2]; simp
     have eL : Q.length + 1 = (insC c M).length := by rw [← hQ2]; simp
     rw [eQ, eL]
     refine callW_ms [.own, .ro, .ro, .ro] ?_
     simp
     refine callX_of hMv (by simp) ?_
     simp [q8]
   ·have hlt := of_decide_eq_true hb9
    obtain ⟨x, hx⟩ := get_some hlt
    cases dn with
    | true =>
     simp [q2, q4, q7, q8, q10, q11, q13, q14, q15, q16, hb9, hx, hw]
     refine ⟨hlt, by omega, hlt, Q ++ [x], hQ.old hx (.inl rfl), by simp, ?_⟩
     simp
    | false =>
     simp [q2, q4, q7, q8, q10, q11, q13, q14, q15, q16, hb9, hx, hw]
     refine ⟨hlt, fun hc => ⟨by omega, hlt, by omega, hlt, Q ++ [c] ++ [x], hQ.new hx hc, by simp, ?_⟩, fun hc => ?_⟩
     ·simp
     ·refine ⟨hlt, by omega, hlt, Q ++ [x], hQ.old hx (.inr (by omega)), by simp, ?_⟩
      simp
end Go.Proofs.YtehmdblkkpdmoaaT


namespace Go.Proofs.YtehmdblkkpdmoaaT
set_option linter.unusedVariables false
set_option linter.unusedSimpArgs false
open Go
theorem V132d (g f : List Int) (ts : List TableP) (rs : List ValP) (e : Int × Int) (x : CellP) (hg : g.length ≤ 2^36) (hf : f.length ≤ 2^36) (hlv : ¬ liveP g f e.1 e.2) : Contract Try.prog false 132 [.own, .ro, .ro, .ro] [worldO g f ts rs, .ag (eT e), .i .i64 x.1, valV x.2] [worldO g f ts rs, .i .i64 2] [none, none, none, none] := by
 refine mk_contract [none, none, none, none] Try.func132 (c := Try.f132.body.get!) (by kernel_rfl) k132 r132 (of_decide_eq_true rfl) fun _ => ?_
 have hlive := (w53 g f e.1 e.2 (by omega) (by omega)).f hlv
 simp only [entsR, entT] at hlive
 unfold c132; unfold valV; simp
 refine callW_ms [.ro, .ro] ?_
 simp
 refine callX_of hlive (by simp) ?_
 simp
theorem V133d (g f : List Int) (ts : List TableP) (rs : List ValP) (e : Int × Int) (x : Int) (hg : g.length ≤ 2^36) (hf : f.length ≤ 2^36) (hlv : ¬ liveP g f e.1 e.2) : Contract Try.prog false 133 [.own, .ro, .ro] [worldO g f ts rs, .ag (eT e), .i .i64 x] [worldO g f ts rs, .i .i64 2] [none, none, none, none] := by
 refine mk_contract [none, none, none, none] Try.func133 (c := Try.f133.body.get!) (by kernel_rfl) k133 r133 (of_decide_eq_true rfl) fun _ => ?_
 have hlive := (w53 g f e.1 e.2 (by omega) (by omega)).f hlv
 simp only [entsR, entT] at hlive
 unfold c133; simp
 refine callW_ms [.ro, .ro] ?_
 simp
 refine callX_of hlive (by simp) ?_
 simp
theorem WkP.gl {n : Nat} {w : WorldP} (h : WkP n w) : w.1.length ≤ 2000 := h.e.2.2
theorem WkP.fl {n : Nat} {w : WorldP} (h : WkP n w) : w.2.1.length ≤ 2000 := h.e.fl
theorem P_put {n : Nat} {w : WorldP} (h : WkP n w) (hn : n ≤ 500) (e : Int × Int) (x : CellP) (hx : valOkF x.2) : ∃ (y : WorldP × Int), (WkP (n + 2) y.1 ∧ y.1.2.2.2 = w.2.2.2) ∧ Contract Try.prog false 132 [.own, .ro, .ro, .ro] [worldO w.1 w.2.1 w.2.2.1 w.2.2.2, .ag (eT e), .i .i64 x.1, valV x.2] [worldO y.1.1 y.1.2.1 y.1.2.2.1 y.1.2.2.2, .i .i64 y.2] [none, none, none, none] := by
 have h1 := h.gl
 have h2 := h.fl
 have h3 := h.r.1
 by_cases hl : liveP w.1 w.2.1 e.1 e.2
 ·obtain ⟨i, k, t, P⟩ := h.at hl
  exact ⟨((w.1, w.2.1, (putTs w.2.2.1 i k t e x).1, w.2.2.2), (putTs w.2.2.1 i k t e x).2), ⟨h.put P hx, rfl⟩, w132 w.1 w.2.1 w.2.2.1 w.2.2.2 i k t e x (by omega) (by omega) (by omega) (h.t.even (by omega)) P hl⟩
 ·exact ⟨(w, 2), ⟨h.mono (by omega), rfl⟩, V132d w.1 w.2.1 w.2.2.1 w.2.2.2 e x (by omega) (by omega) hl⟩
theorem P_drop {n : Nat} {w : WorldP} (h : WkP n w) (hn : n ≤ 500) (e : Int × Int) (x : Int) : ∃ (y : WorldP × Int), (WkP (n + 2) y.1 ∧ y.1.2.2.2 = w.2.2.2) ∧ Contract Try.prog false 133 [.own, .ro, .ro] [worldO w.1 w.2.1 w.2.2.1 w.2.2.2, .ag (eT e), .i .i64 x] [worldO y.1.1 y.1.2.1 y.1.2.2.1 y.1.2.2.2, .i .i64 y.2] [none, none, none, none] := by
 have h1 := h.gl
 have h2 := h.fl
 have h3 := h.r.1
 by_cases hl : liveP w.1 w.2.1 e.1 e.2
 ·obtain ⟨i, k, t, P⟩ := h.at hl
  exact ⟨((w.1, w.2.1, (dropTs w.2.2.1 i k t e x).1, w.2.2.2), (dropTs w.2.2.1 i k t e x).2), ⟨h.drop P, rfl⟩, w133 w.1 w.2.1 w.2.2.1 w.2.2.2 i k t e x (by omega) (by omega) (by omega) (h.t.even (by omega)) P hl⟩
 ·exact ⟨(w, 2), ⟨h.mono (by omega), rfl⟩, V133d w.1 w.2.1 w.2.2.1 w.2.2.2 e x (by omega) (by omega) hl⟩
theorem P_kill {n : Nat} {w : WorldP} (h : WkP n w) (hn : n ≤ 500) (e : Int × Int) : ∃ (y : WorldP × Int), (WkP (n + 2) y.1 ∧ y.1.2.2.2 = w.2.2.2) ∧ Contract Try.prog false 134 [.own, .ro] [worldO w.1 w.2.1 w.2.2.1 w.2.2.2, .ag (eT e)] [worldO y.1.1 y.1.2.1 y.1.2.2.1 y.1.2.2.2, .i .i64 y.2] [none, none, none, none] := by
 have h1 := h.gl
 have h2 := h.fl
 have h3 := h.r.1
 by_cases hl : liveP w.1 w.2.1 e.1 e.2
 ·obtain ⟨i, k, t, P⟩ := h.at hl
  have E := h.t.even (by omega)
  have hm := List.mem_of_getElem? P.ht
  have hil := (List.getElem?_eq_some_iff.1 P.ht).1
  have hkl := (List.getElem?_eq_some_iff.1 P.he).1
  obtain ⟨s1, s2⟩ := split_at P.ht
  have hn40 := h.t.m
  refine ⟨((giveG w.1 e.1 e.2, w.2.1 ++ [e.1], leaveAt w.2.2.1 i k, w.2.2.2), 0), ⟨(h.kill P hl).mono (by omega), rfl⟩, ?_⟩
  have hla : leaveAt w.2.2.1 i k = w.2.2.1.take i ++ leaveT t k :: w.2.2.1.drop (i + 1) := by
   have h1 := leaveAt_mid (A := w.2.2.1.take i) (B := w.2.2.1.drop (i + 1)) (t := t) (k := k)
   rw [← s1, s2] at h1
   exact h1
  have hK := w134 w.1 w.2.1 (w.2.2.1.take i) (w.2.2.1.drop (i + 1)) t w.2.2.2 e k (by omega) (by omega) (by rw [← s1]; exact ⟨by simp only; omega, by simp only; omega, ⟨by simp only; omega, E.okT⟩, by simp only; omega⟩) h.e.1 hl (by rw [← s1, s2]; exact P.hw) (by simp; omega) (by simp; omega) (E.okT t hm) (E.v t hm) hkl
  rw [← s1, ← hla] at hK
  exact hK
 ·exact ⟨(w, 2), ⟨h.mono (by omega), rfl⟩, W134d w.1 w.2.1 w.2.2.1 w.2.2.2 e (by omega) (by omega) hl⟩
theorem P_spawn {n : Nat} {w : WorldP} (h : WkP n w) (hn : n ≤ 500) (L : List CellP) (hL : L.length ≤ 8) (hv : vOkL L) : ∃ (y : WorldP × (Int × Int) × Int), (WkP (n + 2) y.1 ∧ y.1.2.2.2 = w.2.2.2) ∧ Contract Try.prog false 131 [.own, .ro] [worldO w.1 w.2.1 w.2.2.1 w.2.2.2, .sl false 5 (L.map clT)] [worldO y.1.1 y.1.2.1 y.1.2.2.1 y.1.2.2.2, .ag (eT y.2.1), .i .i64 y.2.2] [none, none, none, none] := by
 have h1 := h.gl
 have h2 := h.fl
 exact ⟨(((spawnP w.1 w.2.1 w.2.2.1 L).1.1, (spawnP w.1 w.2.1 w.2.2.1 L).1.2.1, (spawnP w.1 w.2.1 w.2.2.1 L).1.2.2, w.2.2.2), (spawnP w.1 w.2.1 w.2.2.1 L).2.1, (spawnP w.1 w.2.1 w.2.2.1 L).2.2), ⟨(h.spawn hL hv).mono (by omega), rfl⟩, w131 w.1 w.2.1 w.2.2.1 w.2.2.2 L (by omega) (by omega) h.fx (h.t.even (by omega)) (by omega)⟩
theorem new_ok (c r e : DeclsP) (hr : r.length ≤ 20) : WkP 0 (newW c r e) ∧ (newW c r e).2.2.2.length ≤ r.length := by
 have hz : vOkV (newRes r) := by
  intro x hx
  obtain ⟨d, _, rfl⟩ := List.mem_map.1 hx
  unfold zeroV
  split <;> exact ⟨fOk_z, fOk_z⟩
 have hl : ∀ x y : Int, liveP [] [] x y → hasR [] (x, y) := fun x y h => by
  have := h.2.1; simp at this
 unfold newW
 split
 ·exact ⟨⟨EntsOkP.nil (by simp) (by simp), ⟨by simp, fun t h => by cases h⟩, hl, by simp; omega, hz⟩, by simp⟩
 ·exact ⟨⟨EntsOkP.nil (by simp) (by simp), ⟨by simp, fun t h => by cases h⟩, hl, by simp, fun x h => by cases h⟩, by simp⟩
theorem WkP.res {n : Nat} {g f : List Int} {ts : List TableP} {rs rs' : List ValP} (h : WkP n (g, f, ts, rs)) (hl : rs'.length ≤ 20) (hv : vOkV rs') : WkP n (g, f, ts, rs') := ⟨h.e, h.t, h.l, hl, hv⟩
end Go.Proofs.YtehmdblkkpdmoaaT


namespace Go.Proofs.YtehmdblkkpdmoaaT
set_option linter.unusedVariables false
set_option linter.unusedSimpArgs false
open Go
def c102 : TCode := (.seq (.ops [⟨(some 4), 6, .box 3 (.t 1), none, []⟩, ⟨(some 6), 8, .box 4 (.c (.ag [(.sl true 1 []), (.sl true 1 []), (.sl true 3 []), (.sl true 4 [])])), none, []⟩])
 (.seq (.ops [⟨(some 27), 29, .load true 3 (.t 4), none, []⟩, ⟨(some 28), 30, .call 127 [((.t 27), 0)], none, []⟩, ⟨(some 7), 9, .box 4 (.c (.ag [(.sl true 1 []), (.sl true 1 []), (.sl true 3 []), (.sl true 4 [])])), none, []⟩, ⟨none, 1001003, .store 4 (.t 7) (.t 28), none, []⟩])
 (.seq (.seq (.ops [⟨(some 8), 10, .mv (.c (.i .i64 0)), none, []⟩])
 (.block 0 (.loop (.seq (.seq (.ops [⟨(some 29), 31, .mv (.t 8), none, []⟩, ⟨(some 30), 32, .faddr 3 1 (.t 7), none, []⟩, ⟨(some 31), 33, .load false 1 (.t 30), none, []⟩, ⟨(some 32), 34, .len false (.t 31), none, []⟩, ⟨(some 33), 35, .bin .lss (.t 29) (.t 32), none, []⟩])
 (.cond (.t 33)
 .skip
 (.exit 0)))
 (.seq (.block 1 (.draw [⟨(some 36), 38, .faddr 3 1 (.t 7), none, []⟩, ⟨(some 37), 39, .load false 1 (.t 36), none, []⟩, ⟨(some 38), 40, .mv (.t 8), none, []⟩, ⟨(some 39), 41, .mv (.t 0), none, []⟩, ⟨(some 40), 42, .faddr 1 1 (.t 4), none, []⟩, ⟨(some 41), 43, .load false 1 (.t 40), none, []⟩, ⟨(some 42), 44, .mv (.t 8), none, []⟩, ⟨(some 43), 45, .iaddr 2 (.t 41) (.t 42), none, []⟩, ⟨(some 44), 46, .faddr 1 1 (.t 43), none, []⟩, ⟨(some 45), 47, .load false 1 (.t 44), none, []⟩, ⟨(some 46), 48, .call 110 [((.t 39), 3), ((.t 45), 0)], none, [0, 1, 2]⟩, ⟨(some 47), 49, .iaddr 4 (.t 37) (.t 38), none, []⟩, ⟨none, 1005012, .store 4 (.t 47) (.t 46), none, []⟩]))
 (.ops [⟨(some 34), 36, .mv (.t 8), none, []⟩, ⟨(some 35), 37, .bin .add (.t 34) (.c (.i .i64 1)), none, []⟩, ⟨(some 8), 10, .mv (.t 35), none, []⟩]))))))
 (.seq (.seq (.ops [⟨(some 48), 50, .mv (.t 0), none, []⟩, ⟨(some 49), 51, .call 105 [((.t 48), 3), ((.c (.i .i64 14)), 0)], none, []⟩])
 (.cond (.t 49)
 (.seq (.ops [⟨(some 9), 11, .mv (.c (.i .i64 0)), none, []⟩])
 (.block 2 (.loop (.seq (.seq (.ops [⟨(some 50), 52, .mv (.t 9), none, []⟩, ⟨(some 51), 53, .bin .lss (.t 50) (.c (.i .i64 40)), none, []⟩, ⟨(some 52), 54, .mv (.t 51), none, []⟩, ⟨(some 53), 55, .mv (.t 9), (some (52, true)), []⟩, ⟨(some 54), 56, .faddr 0 1 (.t 4), (some (52, true)), []⟩, ⟨(some 55), 57, .load false 1 (.t 54), (some (52, true)), []⟩, ⟨(some 56), 58, .len false (.t 55), (some (52, true)), []⟩, ⟨(some 57), 59, .toInt .u64 (.t 56), (some (52, true)), []⟩, ⟨(some 58), 60, .bin .shl (.c (.i .i64 1)) (.t 57), (some (52, true)), []⟩, ⟨(some 59), 61, .bin .lss (.t 53) (.t 58), (some (52, true)), []⟩, ⟨(some 60), 62, .pick (.t 52) (.t 59) (.c (.b false)), none, []⟩])
 (.cond (.t 60)
 .skip
 (.exit 2)))
 (.seq (.block 3 (.seq (.ops [⟨(some 63), 65, .bslice 1 0 [(.i .i64 0)] [], none, []⟩, ⟨(some 10), 12, .mv (.t 63), none, []⟩])
 (.seq (.seq (.ops [⟨(some 11), 13, .mv (.c (.i .i64 0)), none, []⟩])
 (.block 4 (.loop (.seq (.seq (.ops [⟨(some 64), 66, .mv (.t 11), none, []⟩, ⟨(some 65), 67, .faddr 0 1 (.t 4), none, []⟩, ⟨(some 66), 68, .load false 1 (.t 65), none, []⟩, ⟨(some 67), 69, .len false (.t 66), none, []⟩, ⟨(some 68), 70, .bin .lss (.t 64) (.t 67), none, []⟩])
 (.cond (.t 68)
 .skip
 (.exit 4)))
 (.seq (.block 5 (.seq (.ops [⟨(some 71), 73, .mv (.t 9), none, []⟩, ⟨(some 72), 74, .mv (.t 11), none, []⟩, ⟨(some 73), 75, .toInt .u64 (.t 72), none, []⟩, ⟨(some 74), 76, .bin .shr (.t 71) (.t 73), none, []⟩, ⟨(some 75), 77, .bin .and (.t 74) (.c (.i .i64 1)), none, []⟩, ⟨(some 76), 78, .bin .eql (.t 75) (.c (.i .i64 1)), none, []⟩])
 (.cond (.t 76)
 (.ops [⟨(some 77), 79, .mv (.t 10), none, []⟩, ⟨(some 78), 80, .mv (.t 11), none, []⟩, ⟨(some 79), 81, .bslice 1 1 [(.i .i64 0)] [(0, (.t 78))], none, []⟩, ⟨(some 80), 82, .app 1 8 (.t 77) (.t 79), none, []⟩, ⟨(some 10), 12, .mv (.t 80), none, []⟩])
 .skip)))
 (.ops [⟨(some 69), 71, .mv (.t 11), none, []⟩, ⟨(some 70), 72, .bin .add (.t 69) (.c (.i .i64 1)), none, []⟩, ⟨(some 11), 13, .mv (.t 70), none, []⟩]))))))
 (.seq (.ops [⟨(some 82), 84, .load true 4 (.t 7), none, []⟩, ⟨(some 83), 85, .mv (.t 10), none, []⟩, ⟨(some 84), 86, .call 128 [((.t 82), 0), ((.t 83), 0)], none, []⟩, ⟨(some 81), 83, .mv (.t 84), none, []⟩, ⟨(some 85), 87, .ext 0 (.t 81), none, []⟩, ⟨(some 86), 88, .ext 1 (.t 81), none, []⟩, ⟨(some 12), 14, .box 4 (.c (.ag [(.sl true 1 []), (.sl true 1 []), (.sl true 3 []), (.sl true 4 [])])), none, []⟩, ⟨none, 1016007, .store 4 (.t 12) (.t 85), none, []⟩, ⟨(some 13), 15, .mv (.t 86), none, []⟩])
 (.seq (.ops [⟨(some 87), 89, .mv (.t 13), none, []⟩, ⟨(some 88), 90, .bin .geq (.t 87) (.c (.i .i64 0)), none, []⟩])
 (.cond (.t 88)
 (.ops [⟨(some 89), 91, .load true 4 (.t 12), none, []⟩, ⟨none, 1018001, .store 4 (.t 7) (.t 89), none, []⟩])
 .skip))))))
 (.ops [⟨(some 61), 63, .mv (.t 9), none, []⟩, ⟨(some 62), 64, .bin .add (.t 61) (.c (.i .i64 1)), none, []⟩, ⟨(some 9), 11, .mv (.t 62), none, []⟩]))))))
 .skip))
 (.seq (.seq (.ops [⟨(some 14), 16, .mv (.c (.i .i64 0)), none, []⟩])
 (.block 6 (.loop (.seq (.seq (.ops [⟨(some 90), 92, .mv (.t 14), none, []⟩, ⟨(some 91), 93, .mv (.t 2), none, []⟩, ⟨(some 92), 94, .bin .lss (.t 90) (.t 91), none, []⟩])
 (.cond (.t 92)
 .skip
 (.exit 6)))
 (.seq (.block 7 (.seq (.ops [⟨(some 95), 97, .mv (.t 0), none, []⟩, ⟨(some 96), 98, .call 108 [((.t 95), 3), ((.c (.i .i64 6)), 0)], none, []⟩])
 (.block 8 (.seq (.seq (.ops [⟨(some 109), 111, .bin .eql (.t 96) (.c (.i .i64 0)), none, []⟩, ⟨(some 108), 110, .mv (.t 109), none, []⟩])
 (.cond (.t 108)
 .skip
 (.seq (.ops [⟨(some 110), 112, .bin .eql (.t 96) (.c (.i .i64 1)), none, []⟩, ⟨(some 108), 110, .mv (.t 110), none, []⟩])
 (.cond (.t 108)
 .skip
 (.ops [⟨(some 111), 113, .bin .eql (.t 96) (.c (.i .i64 2)), none, []⟩, ⟨(some 108), 110, .mv (.t 111), none, []⟩])))))
 (.cond (.t 108)
 (.seq (.draw [⟨(some 113), 115, .load true 3 (.t 4), none, []⟩, ⟨(some 114), 116, .mv (.t 0), none, []⟩, ⟨(some 115), 117, .load true 3 (.t 4), none, []⟩, ⟨(some 116), 118, .call 130 [((.t 114), 3), ((.t 115), 0)], none, [0]⟩, ⟨(some 117), 119, .call 129 [((.t 113), 0), ((.t 116), 0)], none, []⟩, ⟨(some 112), 114, .mv (.t 117), none, []⟩, ⟨(some 118), 120, .ext 0 (.t 112), none, []⟩, ⟨(some 119), 121, .ext 1 (.t 112), none, []⟩, ⟨(some 15), 17, .mv (.t 118), none, []⟩, ⟨(some 16), 18, .mv (.t 119), none, []⟩])
 (.seq (.ops [⟨(some 120), 122, .mv (.t 16), none, []⟩])
 (.cond (.t 120)
 (.seq (.ops [⟨(some 122), 124, .load true 4 (.t 7), none, []⟩, ⟨(some 123), 125, .mv (.t 15), none, []⟩, ⟨(some 124), 126, .call 131 [((.t 122), 0), ((.t 123), 0)], none, []⟩, ⟨(some 121), 123, .mv (.t 124), none, []⟩, ⟨(some 125), 127, .ext 0 (.t 121), none, []⟩, ⟨(some 126), 128, .ext 1 (.t 121), none, []⟩, ⟨(some 127), 129, .ext 2 (.t 121), none, []⟩, ⟨(some 17), 19, .box 4 (.c (.ag [(.sl true 1 []), (.sl true 1 []), (.sl true 3 []), (.sl true 4 [])])), none, []⟩, ⟨(some 18), 20, .box 2 (.c (.ag [(.i .i64 0), (.i .i64 0)])), none, []⟩, ⟨none, 1031009, .store 4 (.t 17) (.t 125), none, []⟩, ⟨none, 1031010, .store 2 (.t 18) (.t 126), none, []⟩, ⟨(some 19), 21, .mv (.t 127), none, []⟩])
 (.ops [⟨(some 128), 130, .load true 4 (.t 17), none, []⟩, ⟨none, 1032001, .store 4 (.t 7) (.t 128), none, []⟩]))
 .skip)))
 (.seq (.ops [⟨(some 130), 132, .bin .eql (.t 96) (.c (.i .i64 3)), none, []⟩, ⟨(some 129), 131, .mv (.t 130), none, []⟩])
 (.cond (.t 129)
 (.seq (.ops [⟨(some 131), 133, .faddr 0 1 (.t 4), none, []⟩, ⟨(some 132), 134, .load false 1 (.t 131), none, []⟩, ⟨(some 133), 135, .len false (.t 132), none, []⟩, ⟨(some 134), 136, .bin .gtr (.t 133) (.c (.i .i64 0)), none, []⟩])
 (.cond (.t 134)
 (.seq (.ops [⟨(some 135), 137, .mv (.t 0), none, []⟩, ⟨(some 136), 138, .faddr 0 1 (.t 4), none, []⟩, ⟨(some 137), 139, .load false 1 (.t 136), none, []⟩, ⟨(some 138), 140, .len false (.t 137), none, []⟩, ⟨(some 139), 141, .call 108 [((.t 135), 3), ((.t 138), 0)], none, []⟩, ⟨(some 20), 22, .mv (.t 139), none, []⟩])
 (.seq (.draw [⟨(some 141), 143, .load true 4 (.t 7), none, []⟩, ⟨(some 142), 144, .mv (.t 0), none, []⟩, ⟨(some 143), 145, .load true 4 (.t 7), none, []⟩, ⟨(some 144), 146, .call 69 [((.t 142), 3), ((.t 143), 0)], none, [0]⟩, ⟨(some 145), 147, .mv (.t 20), none, [3]⟩, ⟨(some 146), 148, .mv (.t 0), none, [3]⟩, ⟨(some 147), 149, .faddr 0 1 (.t 4), none, [3]⟩, ⟨(some 148), 150, .load false 1 (.t 147), none, [3]⟩, ⟨(some 149), 151, .mv (.t 20), none, [3]⟩, ⟨(some 150), 152, .iaddr 2 (.t 148) (.t 149), none, [3]⟩, ⟨(some 151), 153, .faddr 1 1 (.t 150), none, [3]⟩, ⟨(some 152), 154, .load false 1 (.t 151), none, [3]⟩, ⟨(some 153), 155, .call 110 [((.t 146), 3), ((.t 152), 0)], none, [0, 4]⟩, ⟨(some 154), 156, .call 132 [((.t 141), 0), ((.t 144), 0), ((.t 145), 0), ((.t 153), 0)], none, []⟩, ⟨(some 140), 142, .mv (.t 154), none, []⟩, ⟨(some 155), 157, .ext 0 (.t 140), none, []⟩, ⟨(some 156), 158, .ext 1 (.t 140), none, []⟩, ⟨(some 21), 23, .box 4 (.c (.ag [(.sl true 1 []), (.sl true 1 []), (.sl true 3 []), (.sl true 4 [])])), none, [0, 1, 2, 3, 4, 5, 6, 7, 8, 9, 10, 11, 12, 13, 14, 15, 16]⟩, ⟨none, 1036018, .store 4 (.t 21) (.t 155), none, [1000000, 16]⟩, ⟨(some 22), 24, .mv (.t 156), none, []⟩])
 (.ops [⟨(some 157), 159, .load true 4 (.t 21), none, []⟩, ⟨none, 1037001, .store 4 (.t 7) (.t 157), none, []⟩])))
 .skip))
 (.seq (.ops [⟨(some 159), 161, .bin .eql (.t 96) (.c (.i .i64 4)), none, []⟩, ⟨(some 158), 160, .mv (.t 159), none, []⟩])
 (.cond (.t 158)
 (.seq (.ops [⟨(some 160), 162, .faddr 0 1 (.t 4), none, []⟩, ⟨(some 161), 163, .load false 1 (.t 160), none, []⟩, ⟨(some 162), 164, .len false (.t 161), none, []⟩, ⟨(some 163), 165, .bin .gtr (.t 162) (.c (.i .i64 0)), none, []⟩])
 (.cond (.t 163)
 (.seq (.draw [⟨(some 165), 167, .load true 4 (.t 7), none, []⟩, ⟨(some 166), 168, .mv (.t 0), none, []⟩, ⟨(some 167), 169, .load true 4 (.t 7), none, []⟩, ⟨(some 168), 170, .call 69 [((.t 166), 3), ((.t 167), 0)], none, [0]⟩, ⟨(some 169), 171, .mv (.t 0), none, [3]⟩, ⟨(some 170), 172, .faddr 0 1 (.t 4), none, [3]⟩, ⟨(some 171), 173, .load false 1 (.t 170), none, [3]⟩, ⟨(some 172), 174, .len false (.t 171), none, [3]⟩, ⟨(some 173), 175, .call 108 [((.t 169), 3), ((.t 172), 0)], none, [0]⟩, ⟨(some 174), 176, .call 133 [((.t 165), 0), ((.t 168), 0), ((.t 173), 0)], none, []⟩, ⟨(some 164), 166, .mv (.t 174), none, []⟩, ⟨(some 175), 177, .ext 0 (.t 164), none, []⟩, ⟨(some 176), 178, .ext 1 (.t 164), none, []⟩, ⟨(some 23), 25, .box 4 (.c (.ag [(.sl true 1 []), (.sl true 1 []), (.sl true 3 []), (.sl true 4 [])])), none, [0, 1, 2, 3, 4, 5, 6, 7, 8, 9, 10, 11, 12]⟩, ⟨none, 1040014, .store 4 (.t 23) (.t 175), none, [1000000, 12]⟩, ⟨(some 24), 26, .mv (.t 176), none, []⟩])
 (.ops [⟨(some 177), 179, .load true 4 (.t 23), none, []⟩, ⟨none, 1041001, .store 4 (.t 7) (.t 177), none, []⟩]))
 .skip))
 (.seq (.ops [⟨(some 97), 99, .mv (.t 0), none, []⟩, ⟨(some 98), 100, .call 105 [((.t 97), 3), ((.c (.i .i64 2)), 0)], none, []⟩])
 (.cond (.t 98)
 (.seq (.draw [⟨(some 100), 102, .load true 4 (.t 7), none, []⟩, ⟨(some 101), 103, .mv (.t 0), none, []⟩, ⟨(some 102), 104, .load true 4 (.t 7), none, []⟩, ⟨(some 103), 105, .call 69 [((.t 101), 3), ((.t 102), 0)], none, [0]⟩, ⟨(some 104), 106, .call 134 [((.t 100), 0), ((.t 103), 0)], none, []⟩, ⟨(some 99), 101, .mv (.t 104), none, []⟩, ⟨(some 105), 107, .ext 0 (.t 99), none, []⟩, ⟨(some 106), 108, .ext 1 (.t 99), none, []⟩, ⟨(some 25), 27, .box 4 (.c (.ag [(.sl true 1 []), (.sl true 1 []), (.sl true 3 []), (.sl true 4 [])])), none, [0, 1, 2, 3, 4, 5, 6, 7]⟩, ⟨none, 1024009, .store 4 (.t 25) (.t 105), none, [1000000, 7]⟩, ⟨(some 26), 28, .mv (.t 106), none, []⟩])
 (.ops [⟨(some 107), 109, .load true 4 (.t 25), none, []⟩, ⟨none, 1025001, .store 4 (.t 7) (.t 107), none, []⟩]))
 .skip)))))))))))
 (.ops [⟨(some 93), 95, .mv (.t 14), none, []⟩, ⟨(some 94), 96, .bin .add (.t 93) (.c (.i .i64 1)), none, []⟩, ⟨(some 14), 16, .mv (.t 94), none, []⟩]))))))
 (.seq (.ops [⟨(some 178), 180, .load true 4 (.t 7), none, []⟩, ⟨none, 1042001, .store 4 (.t 6) (.t 178), none, []⟩])
 .ret))))))
theorem k102 : compCode Try.prog Try.f102.ntmps Try.f102.body.get! = some c102 := by kernel_rfl
theorem r102 : resTmps Try.prog Try.f102.results.toList = some [.cell 6 true 4] := by kernel_rfl
def fstW : TCode → TCode
 | .seq a _ => a
 | c => c
def sndW : TCode → TCode
 | .seq _ b => b
 | c => c
def restW : TCode := sndW (sndW (sndW (sndW c102)))
set_option maxRecDepth 100000 in
theorem c_restW : c102 = .seq (fstW c102) (.seq (fstW (sndW c102)) (.seq (fstW (sndW (sndW c102))) (.seq (fstW (sndW (sndW (sndW c102)))) restW))) := rfl
def WorldD (bs : List Int) (x : Nat × Int × WorldP) : Prop := x.1 ≤ bs.length ∧ WkP 400 x.2.2
set_option maxRecDepth 100000 in
set_option maxHeartbeats 8000000 in
theorem tailW (bs : List Int) (i0 : Nat) (h0 : Int) (n : Nat) (c r d : DcP) (w0 : WorldP) (hb : bs.length ≤ 2^40) (hi0 : i0 ≤ bs.length) (hn : n ≤ 100) (hc : c.length ≤ 20) (hr : r.length ≤ 20) (hd : d.length ≤ 20) (hW0 : WkP 0 w0) (s : St) (q0 : s.t 0 = .pt [(1, 0)] 0 0) (q2 : s.t 2 = .i .i64 n) (q4 : s.t 4 = .pt [(6, 0)] 0 0) (q6 : s.t 6 = .pt [(8, 0)] 0 0) (q7 : s.t 7 = .pt [(9, 0)] 0 0) (o1 : s.org [(6, 0), (0, 0)] = some 1) (o2 : s.org [(6, 0), (0, 1)] = some 2) (o3 : s.org [(6, 0), (0, 2)] = some 3)
  (qH : s.H = lk [(1, [.po true [.sl false 1 (bs.map uT), .i .i64 i0, .i .i64 h0], .junk, .junk, .junk]), (6, [.po true [.sl true 2 (c.map dT), .sl true 2 (r.map dT), .sl true 2 (d.map dT)]]), (8, [.po true [.sl true 1 [], .sl true 1 [], .sl true 3 [], .sl true 4 []]]), (9, [.po true [.sl true 1 (w0.1.map iT), .sl true 1 (w0.2.1.map iT), .sl true 3 (w0.2.2.1.map tbO), .sl true 4 (w0.2.2.2.map vT)]])]) :
  twp Try.prog restW (exK (fun (x : Nat × Int × WorldP) => endW true [worldO x.2.2.1 x.2.2.2.1 x.2.2.2.2.1 x.2.2.2.2.2] [some (curT bs x.1 x.2.1), some (.sl true 2 (c.map dT)), some (.sl true 2 (r.map dT)), some (.sl true 2 (d.map dT))] [some [(1, 0)], some [(6, 0), (0, 0)], some [(6, 0), (0, 1)], some [(6, 0), (0, 2)]] [.cell 6 true 4]) (WorldD bs)) s := by
 unfold restW c102
 simp only [sndW]
 rw [nf_of qH]
 simp [q0, q2, q4, q6, q7, o1, o2, o3]
 refine twp_for n (fun j s => ∃ (i : Nat), i ≤ bs.length ∧ ∃ (h : Int) (w : WorldP), WkP (2 * j) w ∧ s.t 0 = .pt [(1, 0)] 0 0 ∧ s.t 2 = .i .i64 n ∧ s.t 4 = .pt [(6, 0)] 0 0 ∧ s.t 6 = .pt [(8, 0)] 0 0 ∧ s.t 7 = .pt [(9, 0)] 0 0 ∧ s.t 14 = .i .i64 j ∧ s.org [(6, 0), (0, 0)] = some 1 ∧ s.org [(6, 0), (0, 1)] = some 2 ∧ s.org [(6, 0), (0, 2)] = some 3 ∧ s.H = lk [(1, [.po true [.sl false 1 (bs.map uT), .i .i64 i, .i .i64 h], .junk, .junk, .junk]), (6, [.po true [.sl true 2 (c.map dT), .sl true 2 (r.map dT), .sl true 2 (d.map dT)]]), (8, [.po true [.sl true 1 [], .sl true 1 [], .sl true 3 [], .sl true 4 []]]), (9, [.po true [.sl true 1 (w.1.map iT), .sl true 1 (w.2.1.map iT), .sl true 3 (w.2.2.1.map tbO), .sl true 4 (w.2.2.2.map vT)]])]) [19, 20, 23, 25, 27, 106, 118, 119, 126, 156, 176] (by simp) ?_ ?_
 ·refine ⟨i0, hi0, h0, w0, hW0, ?_⟩
  simp [q0, q2, q4, q6, q7, o1, o2, o3]
 ·rintro j s hj ⟨i, hi, h, w, hW, q0, q2, q4, q6, q7, q14, o1, o2, o3, qH⟩
  rw [nf_of qH]
  have hgl := hW.gl
  have hfl := hW.fl
  have hw : IntKind.i64.wrap ((j : Int) + 1) = j + 1 := wrap_id (by omega) (by omega)
  cases hb9 : decide (j < n)
  ·simp [q0, q2, q4, q6, q7, q14, o1, o2, o3, hb9]
   refine exK_of (i, h, w) ⟨hi, hW.mono (by omega)⟩ ?_
   simp [curT, worldO, q6, o1, o2, o3]
  ·have hlt := of_decide_eq_true hb9
   simp [q0, q2, q4, q6, q7, q14, o1, o2, o3, hb9]
   obtain ⟨⟨i1, h1, y1⟩, ⟨a1, b1, c1⟩, hC1⟩ := w108 bs i h 6 hb hi
   simp only at a1 b1 c1 hC1
   unfold curT at hC1
   refine callW_ms [.own, .ro] ?_
   simp [q0, q2, q4, q6, q7, q14, o1, o2, o3]
   refine callX_of hC1 (by simp) ?_
   have c1' := c1 (by omega)
   rcases (by omega : y1 = 0 ∨ y1 = 1 ∨ y1 = 2 ∨ y1 = 3 ∨ y1 = 4 ∨ y1 = 5) with rfl | rfl | rfl | rfl | rfl | rfl
   ·simp [q0, q2, q4, q6, q7, q14, o1, o2, o3]
    obtain ⟨⟨i2, h2, L⟩, ⟨a2, hL8, hLv⟩, hC2⟩ := w130 bs i1 h1 c r d hb a1 hc
    simp only at a2 hL8 hLv hC2
    unfold curT regO at hC2
    refine callW_ms [.own, .own] ?_
    simp [q0, q2, q4, q6, q7, q14, o1, o2, o3]
    refine callX_of hC2 (by simp) ?_
    simp [q0, q2, q4, q6, q7, q14, o1, o2, o3]
    refine ⟨by decide, ?_⟩
    have hS := w129 c r d L (by omega) (by omega) hLv
    have hSl := l4S_len c L
    have hSv := l4S_ok (c := c) hLv
    unfold regR at hS
    generalize l4S c L = S at *
    obtain ⟨S, ok⟩ := S
    simp only at hS hSl hSv
    refine callW_ms [.ro, .ro] ?_
    simp
    refine callX_of hS (by simp) ?_
    cases ok with
    | false =>
     simp [q0, q2, q4, q6, q7, q14, o1, o2, o3, hw, forK]
     refine ⟨hlt, i2, a2, h2, w.1, w.2.1, w.2.2.1, w.2.2.2, (hW.mono (by omega)), ?_⟩
     simp [q0, q2, q4, q6, q7, q14, o1, o2, o3, hw]
    | true =>
     simp [q0, q2, q4, q6, q7, q14, o1, o2, o3]
     obtain ⟨⟨w2, e2, k2⟩, ⟨hW2, _⟩, hC3⟩ := P_spawn hW (by omega) S (by omega) hSv
     simp only at hW2 hC3
     unfold worldO at hC3
     refine callW_ms [.own, .ro] ?_
     simp
     refine callX_of hC3 (by simp) ?_
     simp [q0, q2, q4, q6, q7, q14, o1, o2, o3, hw, forK]
     refine ⟨hlt, i2, a2, h2, w2.1, w2.2.1, w2.2.2.1, w2.2.2.2, (hW2.mono (by omega)), ?_⟩
     simp [q0, q2, q4, q6, q7, q14, o1, o2, o3, hw]
   ·simp [q0, q2, q4, q6, q7, q14, o1, o2, o3]
    obtain ⟨⟨i2, h2, L⟩, ⟨a2, hL8, hLv⟩, hC2⟩ := w130 bs i1 h1 c r d hb a1 hc
    simp only at a2 hL8 hLv hC2
    unfold curT regO at hC2
    refine callW_ms [.own, .own] ?_
    simp [q0, q2, q4, q6, q7, q14, o1, o2, o3]
    refine callX_of hC2 (by simp) ?_
    simp [q0, q2, q4, q6, q7, q14, o1, o2, o3]
    refine ⟨by decide, ?_⟩
    have hS := w129 c r d L (by omega) (by omega) hLv
    have hSl := l4S_len c L
    have hSv := l4S_ok (c := c) hLv
    unfold regR at hS
    generalize l4S c L = S at *
    obtain ⟨S, ok⟩ := S
    simp only at hS hSl hSv
    refine callW_ms [.ro, .ro] ?_
    simp
    refine callX_of hS (by simp) ?_
    cases ok with
    | false =>
     simp [q0, q2, q4, q6, q7, q14, o1, o2, o3, hw, forK]
     refine ⟨hlt, i2, a2, h2, w.1, w.2.1, w.2.2.1, w.2.2.2, (hW.mono (by omega)), ?_⟩
     simp [q0, q2, q4, q6, q7, q14, o1, o2, o3, hw]
    | true =>
     simp [q0, q2, q4, q6, q7, q14, o1, o2, o3]
     obtain ⟨⟨w2, e2, k2⟩, ⟨hW2, _⟩, hC3⟩ := P_spawn hW (by omega) S (by omega) hSv
     simp only at hW2 hC3
     unfold worldO at hC3
     refine callW_ms [.own, .ro] ?_
     simp
     refine callX_of hC3 (by simp) ?_
     simp [q0, q2, q4, q6, q7, q14, o1, o2, o3, hw, forK]
     refine ⟨hlt, i2, a2, h2, w2.1, w2.2.1, w2.2.2.1, w2.2.2.2, (hW2.mono (by omega)), ?_⟩
     simp [q0, q2, q4, q6, q7, q14, o1, o2, o3, hw]
   ·simp [q0, q2, q4, q6, q7, q14, o1, o2, o3]
    obtain ⟨⟨i2, h2, L⟩, ⟨a2, hL8, hLv⟩, hC2⟩ := w130 bs i1 h1 c r d hb a1 hc
    simp only at a2 hL8 hLv hC2
    unfold curT regO at hC2
    refine callW_ms [.own, .own] ?_
    simp [q0, q2, q4, q6, q7, q14, o1, o2, o3]
    refine callX_of hC2 (by simp) ?_
    simp [q0, q2, q4, q6, q7, q14, o1, o2, o3]
    refine ⟨by decide, ?_⟩
    have hS := w129 c r d L (by omega) (by omega) hLv
    have hSl := l4S_len c L
    have hSv := l4S_ok (c := c) hLv
    unfold regR at hS
    generalize l4S c L = S at *
    obtain ⟨S, ok⟩ := S
    simp only at hS hSl hSv
    refine callW_ms [.ro, .ro] ?_
    simp
    refine callX_of hS (by simp) ?_
    cases ok with
    | false =>
     simp [q0, q2, q4, q6, q7, q14, o1, o2, o3, hw, forK]
     refine ⟨hlt, i2, a2, h2, w.1, w.2.1, w.2.2.1, w.2.2.2, (hW.mono (by omega)), ?_⟩
     simp [q0, q2, q4, q6, q7, q14, o1, o2, o3, hw]
    | true =>
     simp [q0, q2, q4, q6, q7, q14, o1, o2, o3]
     obtain ⟨⟨w2, e2, k2⟩, ⟨hW2, _⟩, hC3⟩ := P_spawn hW (by omega) S (by omega) hSv
     simp only at hW2 hC3
     unfold worldO at hC3
     refine callW_ms [.own, .ro] ?_
     simp
     refine callX_of hC3 (by simp) ?_
     simp [q0, q2, q4, q6, q7, q14, o1, o2, o3, hw, forK]
     refine ⟨hlt, i2, a2, h2, w2.1, w2.2.1, w2.2.2.1, w2.2.2.2, (hW2.mono (by omega)), ?_⟩
     simp [q0, q2, q4, q6, q7, q14, o1, o2, o3, hw]
   ·simp [q0, q2, q4, q6, q7, q14, o1, o2, o3]
    refine ⟨fun hpos => ?_, fun hneg => ?_⟩
    rotate_left
    ·simp [q0, q2, q4, q6, q7, q14, o1, o2, o3, hw, forK]
     refine ⟨hlt, i1, a1, h1, w.1, w.2.1, w.2.2.1, w.2.2.2, (hW.mono (by omega)), ?_⟩
     simp [q0, q2, q4, q6, q7, q14, o1, o2, o3, hw]
    ·obtain ⟨⟨i2, h2, k⟩, ⟨a2, b2, c2⟩, hC2⟩ := w108 bs i1 h1 (c.length : Int) hb a1
     simp only at a2 b2 c2 hC2
     unfold curT at hC2
     refine callW_ms [.own, .ro] ?_
     simp [q0, q2, q4, q6, q7, q14, o1, o2, o3]
     refine callX_of hC2 (by simp) ?_
     simp [q0, q2, q4, q6, q7, q14, o1, o2, o3]
     have c3 := c2 (by omega)
     obtain ⟨dc, hdc⟩ : ∃ dc, c[k.toNat]? = some dc := get_some (by omega)
     obtain ⟨⟨i3, h3, e3⟩, a3, hC3⟩ := w69 bs i2 h2 w.1 w.2.1 w.2.2.1 w.2.2.2 hb a2 (by omega) (by omega)
     simp only at a3 hC3
     unfold curT worldO at hC3
     refine callW_ms [.own, .own] ?_
     simp [q0, q2, q4, q6, q7, q14, o1, o2, o3]
     refine callX_of hC3 (by simp) ?_
     simp [q0, q2, q4, q6, q7, q14, o1, o2, o3, hdc, b2]
     refine ⟨by decide, ?_⟩
     refine ⟨by omega, ?_⟩
     obtain ⟨⟨i4, h4, v4⟩, ⟨a4, b4, c4⟩, hC4⟩ := w110 bs i3 h3 dc.2 hb a3
     simp only at a4 b4 hC4
     unfold curT valV at hC4
     refine callW_ms [.own, .ro] ?_
     simp [q0, q2, q4, q6, q7, q14, o1, o2, o3]
     refine callX_of hC4 (by simp) ?_
     simp [q0, q2, q4, q6, q7, q14, o1, o2, o3, hdc, b2]
     obtain ⟨⟨w2, k2⟩, ⟨hW2, _⟩, hC5⟩ := P_put hW (by omega) e3 (k, v4) b4
     simp only at hW2 hC5
     unfold worldO valV at hC5
     refine callW_ms [.own, .ro, .ro, .ro] ?_
     simp
     refine callX_of hC5 (by simp) ?_
     simp [q0, q2, q4, q6, q7, q14, o1, o2, o3, hw, forK]
     refine ⟨hlt, i4, a4, h4, w2.1, w2.2.1, w2.2.2.1, w2.2.2.2, (hW2.mono (by omega)), ?_⟩
     simp [q0, q2, q4, q6, q7, q14, o1, o2, o3, hw]
   ·simp [q0, q2, q4, q6, q7, q14, o1, o2, o3]
    refine ⟨fun hpos => ?_, fun hneg => ?_⟩
    rotate_left
    ·simp [q0, q2, q4, q6, q7, q14, o1, o2, o3, hw, forK]
     refine ⟨hlt, i1, a1, h1, w.1, w.2.1, w.2.2.1, w.2.2.2, (hW.mono (by omega)), ?_⟩
     simp [q0, q2, q4, q6, q7, q14, o1, o2, o3, hw]
    ·obtain ⟨⟨i3, h3, e3⟩, a3, hC3⟩ := w69 bs i1 h1 w.1 w.2.1 w.2.2.1 w.2.2.2 hb a1 (by omega) (by omega)
     simp only at a3 hC3
     unfold curT worldO at hC3
     refine callW_ms [.own, .own] ?_
     simp [q0, q2, q4, q6, q7, q14, o1, o2, o3]
     refine callX_of hC3 (by simp) ?_
     simp [q0, q2, q4, q6, q7, q14, o1, o2, o3]
     refine ⟨by decide, ?_⟩
     obtain ⟨⟨i2, h2, k⟩, ⟨a2, b2, c2⟩, hC2⟩ := w108 bs i3 h3 (c.length : Int) hb a3
     simp only at a2 b2 c2 hC2
     unfold curT at hC2
     refine callW_ms [.own, .ro] ?_
     simp [q0, q2, q4, q6, q7, q14, o1, o2, o3]
     refine callX_of hC2 (by simp) ?_
     simp [q0, q2, q4, q6, q7, q14, o1, o2, o3]
     obtain ⟨⟨w2, k2⟩, ⟨hW2, _⟩, hC5⟩ := P_drop hW (by omega) e3 k
     simp only at hW2 hC5
     unfold worldO at hC5
     refine callW_ms [.own, .ro, .ro] ?_
     simp
     refine callX_of hC5 (by simp) ?_
     simp [q0, q2, q4, q6, q7, q14, o1, o2, o3, hw, forK]
     refine ⟨hlt, i2, a2, h2, w2.1, w2.2.1, w2.2.2.1, w2.2.2.2, (hW2.mono (by omega)), ?_⟩
     simp [q0, q2, q4, q6, q7, q14, o1, o2, o3, hw]
   ·simp [q0, q2, q4, q6, q7, q14, o1, o2, o3]
    obtain ⟨⟨i2, h2, y2⟩, a2, hC2⟩ := w105 bs i1 h1 2 hb a1
    simp only at a2 hC2
    unfold curT at hC2
    refine callW_ms [.own, .ro] ?_
    simp [q0, q2, q4, q6, q7, q14, o1, o2, o3]
    refine callX_of hC2 (by simp) ?_
    cases y2 with
    | false =>
     simp [q0, q2, q4, q6, q7, q14, o1, o2, o3, hw, forK]
     refine ⟨hlt, i2, a2, h2, w.1, w.2.1, w.2.2.1, w.2.2.2, (hW.mono (by omega)), ?_⟩
     simp [q0, q2, q4, q6, q7, q14, o1, o2, o3, hw]
    | true =>
     simp [q0, q2, q4, q6, q7, q14, o1, o2, o3]
     obtain ⟨⟨i3, h3, e3⟩, a3, hC3⟩ := w69 bs i2 h2 w.1 w.2.1 w.2.2.1 w.2.2.2 hb a2 (by omega) (by omega)
     simp only at a3 hC3
     unfold curT worldO at hC3
     refine callW_ms [.own, .own] ?_
     simp [q0, q2, q4, q6, q7, q14, o1, o2, o3]
     refine callX_of hC3 (by simp) ?_
     simp [q0, q2, q4, q6, q7, q14, o1, o2, o3]
     refine ⟨by decide, ?_⟩
     obtain ⟨⟨w2, k2⟩, ⟨hW2, _⟩, hC5⟩ := P_kill hW (by omega) e3
     simp only at hW2 hC5
     unfold worldO at hC5
     refine callW_ms [.own, .ro] ?_
     simp
     refine callX_of hC5 (by simp) ?_
     simp [q0, q2, q4, q6, q7, q14, o1, o2, o3, hw, forK]
     refine ⟨hlt, i3, a3, h3, w2.1, w2.2.1, w2.2.2.1, w2.2.2.2, (hW2.mono (by omega)), ?_⟩
     simp [q0, q2, q4, q6, q7, q14, o1, o2, o3, hw]
end Go.Proofs.YtehmdblkkpdmoaaT


namespace Go.Proofs.YtehmdblkkpdmoaaT
set_option linter.unusedVariables false
set_option linter.unusedSimpArgs false
open Go
set_option maxHeartbeats 8000000 in
set_option maxRecDepth 100000 in
theorem w102 (bs : List Int) (i0 : Nat) (h0 : Int) (c r d : DcP) (n : Nat) (hb : bs.length ≤ 2^40) (hi0 : i0 ≤ bs.length) (hc : c.length ≤ 20) (hr : r.length ≤ 20) (hd : d.length ≤ 20) (hn : n ≤ 100) : ∃ x : Nat × Int × WorldP, (WorldD bs x) ∧ Contract Try.prog true 102 [.own, .own, .ro] [curT bs i0 h0, regO c r d, .i .i64 n] [worldO x.2.2.1 x.2.2.2.1 x.2.2.2.2.1 x.2.2.2.2.2] [some (curT bs x.1 x.2.1), some (.sl true 2 (c.map dT)), some (.sl true 2 (r.map dT)), some (.sl true 2 (d.map dT))] := by
 refine mk_contractE [some [(1, 0)], some [(6, 0), (0, 0)], some [(6, 0), (0, 1)], some [(6, 0), (0, 2)]] Try.func102 (c := Try.f102.body.get!) (by kernel_rfl) k102 r102 (of_decide_eq_true rfl) ?_
 have tl := tailW bs
 have hN := w127 c r d (by omega) (by omega) (by omega)
 obtain ⟨hW0, hrs0⟩ := new_ok c r d hr
 obtain ⟨rs0, hrs⟩ : ∃ rs, newW c r d = ([], [], [], rs) := ⟨_, rfl⟩
 rw [hrs] at hN hW0 hrs0
 simp only at hN hrs0
 rw [c_restW]
 generalize restW = R at *
 simp only [fstW, sndW, c102]
 unfold curT worldO regR regO at *
 simp
 refine callW_ms [.ro] ?_
 simp
 refine callX_of hN (by simp) ?_
 simp
 refine twp_for rs0.length (fun j s => ∃ (i : Nat), i ≤ bs.length ∧ ∃ (h : Int) (rs : List ValP), (rs.length = rs0.length ∧ vOkV rs) ∧ s.t 0 = .pt [(1, 0)] 0 0 ∧ s.t 2 = .i .i64 n ∧ s.t 4 = .pt [(6, 0)] 0 0 ∧ s.t 6 = .pt [(8, 0)] 0 0 ∧ s.t 7 = .pt [(9, 0)] 0 0 ∧ s.t 8 = .i .i64 j ∧ s.org [(6, 0), (0, 0)] = some 1 ∧ s.org [(6, 0), (0, 1)] = some 2 ∧ s.org [(6, 0), (0, 2)] = some 3 ∧ s.H = lk [(1, [.po true [.sl false 1 (bs.map uT), .i .i64 i, .i .i64 h], .junk, .junk, .junk]), (6, [.po true [.sl true 2 (c.map dT), .sl true 2 (r.map dT), .sl true 2 (d.map dT)]]), (8, [.po true [.sl true 1 [], .sl true 1 [], .sl true 3 [], .sl true 4 []]]), (9, [.po true [.sl true 1 [], .sl true 1 [], .sl true 3 ([]), .sl true 4 (rs.map vT)]])]) [30] (by simp) ?_ ?_
 ·refine ⟨i0, hi0, h0, rs0, ⟨rfl, hW0.r.2⟩, ?_⟩
  simp
 ·rintro j s hj ⟨i, hi, h, rs, ⟨hrl, hrv⟩, q0, q2, q4, q6, q7, q8, o1, o2, o3, qH⟩
  rw [nf_of qH]
  have hr20 := hW0.r.1
  simp only at hr20
  have hw : IntKind.i64.wrap ((j : Int) + 1) = j + 1 := wrap_id (by omega) (by omega)
  cases hb9 : decide (j < rs.length)
  rotate_left
  ·have hlt := of_decide_eq_true hb9
   obtain ⟨dc, hdc⟩ : ∃ dc, r[j]? = some dc := get_some (by omega)
   obtain ⟨v0, hv0⟩ : ∃ v, rs[j]? = some v := get_some hlt
   have hjr : j < r.length := by omega
   simp [q0, q2, q4, q6, q7, o1, o2, o3, q8, hb9, hdc, hv0]
   refine ⟨hjr, ?_⟩
   obtain ⟨⟨i4, h4, v4⟩, ⟨a4, b4, c4⟩, hC4⟩ := w110 bs i h dc.2 hb hi
   simp only at a4 b4 hC4
   unfold curT valV at hC4
   refine callW_ms [.own, .ro] ?_
   simp [q0, q2, q4, q6, q7, o1, o2, o3, q8, hdc]
   refine callX_of hC4 (by simp) ?_
   simp [q0, q2, q4, q6, q7, o1, o2, o3, q8, hdc, hv0, hw, forK]
   refine ⟨by omega, by omega, i4, a4, h4, rs.set j v4, ⟨by rw [List.length_set]; exact hrl, fun x hx => ?_⟩, ?_⟩
   ·rcases List.mem_or_eq_of_mem_set hx with hx | rfl
    ·exact hrv x hx
    ·exact b4
   ·rw [mod_vT v4 hv0]
  ·have hge := of_decide_eq_false hb9
   simp [q0, q2, q4, q6, q7, o1, o2, o3, q8, hb9]
   have hW1 : WkP 0 ([], [], [], rs) := hW0.res (by omega) hrv
   obtain ⟨⟨i1, h1, y1⟩, a1, hC1⟩ := w105 bs i h 14 hb hi
   simp only at a1 hC1
   unfold curT at hC1
   refine callW_ms [.own, .ro] ?_
   simp [q0, q2, q4, q6, q7, o1, o2, o3]
   refine callX_of hC1 (by simp) ?_
   cases y1 with
   | false =>
    simp [q0, q2, q4, q6, q7, o1, o2, o3]
    refine tl i1 h1 n c r d ([], [], [], rs) hb a1 hn hc hr hd hW1 _ ?_ ?_ ?_ ?_ ?_ ?_ ?_ ?_ ?_ <;> simp [q0, q2, q4, q6, q7, o1, o2, o3]
   | true =>
    simp [q0, q2, q4, q6, q7, o1, o2, o3]
    refine twp_for 40 (fun j s => ∃ (ts : List TableP), WkP 0 ([], [], ts, rs) ∧ s.t 0 = .pt [(1, 0)] 0 0 ∧ s.t 2 = .i .i64 n ∧ s.t 4 = .pt [(6, 0)] 0 0 ∧ s.t 6 = .pt [(8, 0)] 0 0 ∧ s.t 7 = .pt [(9, 0)] 0 0 ∧ s.t 9 = .i .i64 j ∧ s.org [(6, 0), (0, 0)] = some 1 ∧ s.org [(6, 0), (0, 1)] = some 2 ∧ s.org [(6, 0), (0, 2)] = some 3 ∧ s.H = lk [(1, [.po true [.sl false 1 (bs.map uT), .i .i64 i1, .i .i64 h1], .junk, .junk, .junk]), (6, [.po true [.sl true 2 (c.map dT), .sl true 2 (r.map dT), .sl true 2 (d.map dT)]]), (8, [.po true [.sl true 1 [], .sl true 1 [], .sl true 3 [], .sl true 4 []]]), (9, [.po true [.sl true 1 [], .sl true 1 [], .sl true 3 (ts.map tbO), .sl true 4 (rs.map vT)]])]) [14, 65, 81, 82, 86] (by simp) ?_ ?_
    ·refine ⟨[], hW1, ?_⟩
     simp [q0, q2, q4, q6, q7, o1, o2, o3]
    ·rintro j s hj ⟨ts, hWt, q0, q2, q4, q6, q7, q9, o1, o2, o3, qH⟩
     rw [nf_of qH]
     have ht40 := hWt.t.m
     simp only at ht40
     have hw : IntKind.i64.wrap ((j : Int) + 1) = j + 1 := wrap_id (by omega) (by omega)
     cases hb9 : decide ((j : Int) < 40)
     ·simp [q0, q2, q4, q6, q7, o1, o2, o3, q9, hb9]
      refine tl i1 h1 n c r d ([], [], ts, rs) hb a1 hn hc hr hd hWt _ ?_ ?_ ?_ ?_ ?_ ?_ ?_ ?_ ?_ <;> simp [q0, q2, q4, q6, q7, o1, o2, o3]
     ·have h40 := of_decide_eq_true hb9
      simp [q0, q2, q4, q6, q7, o1, o2, o3, q9, hb9]
      refine ⟨wrap_u64_nn _, fun hlt => ?_, fun hge => ?_⟩
      rotate_left
      ·refine tl i1 h1 n c r d ([], [], ts, rs) hb a1 hn hc hr hd hWt _ ?_ ?_ ?_ ?_ ?_ ?_ ?_ ?_ ?_ <;> simp [q0, q2, q4, q6, q7, o1, o2, o3]
      ·refine twp_forR c.length (fun k s => ∃ (L : List Int), L.length ≤ k ∧ s.t 0 = .pt [(1, 0)] 0 0 ∧ s.t 2 = .i .i64 n ∧ s.t 4 = .pt [(6, 0)] 0 0 ∧ s.t 6 = .pt [(8, 0)] 0 0 ∧ s.t 7 = .pt [(9, 0)] 0 0 ∧ s.t 9 = .i .i64 j ∧ s.t 10 = .rf [(82, 0)] 0 L.length ∧ s.t 11 = .i .i64 k ∧ s.org [(6, 0), (0, 0)] = some 1 ∧ s.org [(6, 0), (0, 1)] = some 2 ∧ s.org [(6, 0), (0, 2)] = some 3 ∧ s.H = lk [(1, [.po true [.sl false 1 (bs.map uT), .i .i64 i1, .i .i64 h1], .junk, .junk, .junk]), (6, [.po true [.sl true 2 (c.map dT), .sl true 2 (r.map dT), .sl true 2 (d.map dT)]]), (8, [.po true [.sl true 1 [], .sl true 1 [], .sl true 3 [], .sl true 4 []]]), (9, [.po true [.sl true 1 [], .sl true 1 [], .sl true 3 (ts.map tbO), .sl true 4 (rs.map vT)]]), (82, [.sl true 1 (L.map iT)])]) [81] [(65, 82)] (by simp) (by simp) ?_ ?_
       ·refine ⟨[], by simp, ?_⟩
        simp [q0, q2, q4, q6, q7, o1, o2, o3, q9, renO]
       ·rintro k s hk ⟨L, hLk, q0, q2, q4, q6, q7, q9, q10, q11, o1, o2, o3, qH⟩
        rw [nf_of qH]
        have hwk : IntKind.i64.wrap ((k : Int) + 1) = k + 1 := wrap_id (by omega) (by omega)
        cases hb8 : decide (k < c.length)
        ·have hge := of_decide_eq_false hb8
         simp [q0, q2, q4, q6, q7, o1, o2, o3, q9, q10, q11, hb8]
         by_cases hfu : fullT ts L
         ·have hT := W128f [] [] ts rs L (fun t ht => by have := (hWt.t.t t ht).c; omega) (by omega) (by omega) hfu
          unfold worldR at hT
          refine callW_ms [.ro, .ro] ?_
          simp
          refine callX_of hT (by simp) ?_
          simp [q0, q2, q4, q6, q7, o1, o2, o3, q9, q10, q11, hw, forK]
          exact ⟨by omega, ts, hWt, rfl⟩
         ·have hT := w128 [] [] ts rs L (fun t ht => by have := (hWt.t.t t ht).c; omega) (by omega) (by omega) hfu
          have hW2 := hWt.tab hfu (by omega)
          unfold worldO at hT
          refine callW_ms [.own, .ro] ?_
          simp
          refine callX_of hT (by simp) ?_
          simp [q0, q2, q4, q6, q7, o1, o2, o3, q9, q10, q11, hw, forK]
          exact ⟨by omega, _, hW2, rfl⟩
        ·have hlt := of_decide_eq_true hb8
         simp [q0, q2, q4, q6, q7, o1, o2, o3, q9, q10, q11, hb8]
         refine ⟨wrap_u64_nn _, fun hb1 => ?_, fun hb1 => ?_⟩
         ·simp [q0, q2, q4, q6, q7, o1, o2, o3, q9, q10, q11, hwk, forK]
          refine ⟨by omega, hlt, L ++ [(k : Int)], by simp; omega, ?_⟩
          simp [q0, q2, q4, q6, q7, o1, o2, o3, hwk]
         ·simp [q0, q2, q4, q6, q7, o1, o2, o3, q9, q10, q11, hwk, forK]
          refine ⟨hlt, L, by omega, ?_⟩
          simp [q0, q2, q4, q6, q7, o1, o2, o3, hwk]
end Go.Proofs.YtehmdblkkpdmoaaT


namespace Go.Proofs.YtehmdblkkpdmoaaT
set_option linter.unusedVariables false
set_option linter.unusedSimpArgs false
open Go
def c104 : TCode := (.seq (.ops [⟨(some 4), 6, .mv (.c (.i .i64 0)), none, []⟩])
 (.seq (.ops [⟨(some 6), 8, .mv (.t 0), none, []⟩, ⟨(some 7), 9, .len false (.t 6), none, []⟩, ⟨(some 8), 10, .bin .quo (.t 7) (.c (.i .i64 20)), none, []⟩, ⟨(some 9), 11, .bin .add (.c (.i .i64 2)) (.t 8), none, []⟩, ⟨(some 5), 7, .mv (.t 9), none, []⟩])
 (.seq (.seq (.ops [⟨(some 10), 12, .mv (.t 5), none, []⟩, ⟨(some 11), 13, .mv (.t 1), none, []⟩, ⟨(some 12), 14, .bin .gtr (.t 10) (.t 11), none, []⟩])
 (.cond (.t 12)
 (.seq (.ops [⟨(some 13), 15, .mv (.t 1), none, []⟩, ⟨(some 4), 6, .mv (.t 13), none, []⟩])
 .ret)
 .skip))
 (.seq (.ops [⟨(some 14), 16, .mv (.t 5), none, []⟩, ⟨(some 4), 6, .mv (.t 14), none, []⟩])
 .ret))))
theorem k104 : compCode Try.prog Try.f104.ntmps Try.f104.body.get! = some c104 := by kernel_rfl
theorem r104 : resTmps Try.prog Try.f104.results.toList = some [.tmp 4] := by kernel_rfl
def c135 : TCode := (.seq (.ops [⟨(some 3), 5, .box 2 (.t 1), none, []⟩, ⟨(some 4), 6, .box 2 (.c (.ag [(.sl true 1 []), (.sl true 1 [])])), none, []⟩])
 (.seq (.seq (.ops [⟨(some 6), 8, .mv (.t 0), none, []⟩, ⟨(some 7), 9, .call 108 [((.t 6), 3), ((.c (.i .i64 4)), 0)], none, []⟩])
 (.block 0 (.seq (.ops [⟨(some 18), 20, .bin .eql (.t 7) (.c (.i .i64 0)), none, []⟩, ⟨(some 17), 19, .mv (.t 18), none, []⟩])
 (.cond (.t 17)
 (.draw [⟨(some 19), 21, .faddr 1 1 (.t 3), none, []⟩, ⟨(some 20), 22, .load false 1 (.t 19), none, []⟩, ⟨(some 21), 23, .mv (.t 0), none, []⟩, ⟨(some 22), 24, .faddr 0 1 (.t 3), none, []⟩, ⟨(some 23), 25, .load false 1 (.t 22), none, []⟩, ⟨(some 24), 26, .len false (.t 23), none, []⟩, ⟨(some 25), 27, .bin .add (.t 24) (.c (.i .i64 3)), none, []⟩, ⟨(some 26), 28, .call 108 [((.t 21), 3), ((.t 25), 0)], none, [0, 1]⟩, ⟨(some 27), 29, .bin .sub (.t 26) (.c (.i .i64 1)), none, []⟩, ⟨(some 28), 30, .bslice 1 1 [(.i .i64 0)] [(0, (.t 27))], none, [0, 1]⟩, ⟨(some 29), 31, .app 1 8 (.t 20) (.t 28), none, []⟩, ⟨(some 30), 32, .faddr 1 1 (.t 3), none, []⟩, ⟨none, 1007012, .store 1 (.t 30) (.t 29), none, []⟩])
 (.seq (.ops [⟨(some 32), 34, .bin .eql (.t 7) (.c (.i .i64 1)), none, []⟩, ⟨(some 31), 33, .mv (.t 32), none, []⟩])
 (.cond (.t 31)
 (.seq (.ops [⟨(some 33), 35, .faddr 0 1 (.t 3), none, []⟩, ⟨(some 34), 36, .load false 1 (.t 33), none, []⟩, ⟨(some 35), 37, .len false (.t 34), none, []⟩, ⟨(some 36), 38, .bin .gtr (.t 35) (.c (.i .i64 0)), none, []⟩])
 (.cond (.t 36)
 (.draw [⟨(some 37), 39, .faddr 0 1 (.t 3), none, []⟩, ⟨(some 38), 40, .load false 1 (.t 37), none, []⟩, ⟨(some 39), 41, .mv (.t 0), none, []⟩, ⟨(some 40), 42, .faddr 0 1 (.t 3), none, []⟩, ⟨(some 41), 43, .load false 1 (.t 40), none, []⟩, ⟨(some 42), 44, .len false (.t 41), none, []⟩, ⟨(some 43), 45, .call 108 [((.t 39), 3), ((.t 42), 0)], none, [0, 1]⟩, ⟨(some 44), 46, .mv (.t 0), none, [6]⟩, ⟨(some 45), 47, .bslice 1 2 [(.i .i64 0)] [(0, (.c (.i .i64 (-1)))), (1, (.c (.i .i64 1000001)))], none, [0, 1, 2, 3, 4, 5, 6, 7]⟩, ⟨(some 46), 48, .call 125 [((.t 44), 3), ((.t 45), 0)], none, [0, 1]⟩, ⟨(some 47), 49, .iaddr 1 (.t 38) (.t 43), none, []⟩, ⟨none, 1010011, .store 1 (.t 47) (.t 46), none, []⟩])
 .skip))
 (.seq (.ops [⟨(some 49), 51, .bin .eql (.t 7) (.c (.i .i64 2)), none, []⟩, ⟨(some 48), 50, .mv (.t 49), none, []⟩])
 (.cond (.t 48)
 (.seq (.ops [⟨(some 50), 52, .faddr 1 1 (.t 3), none, []⟩, ⟨(some 51), 53, .load false 1 (.t 50), none, []⟩, ⟨(some 52), 54, .len false (.t 51), none, []⟩, ⟨(some 53), 55, .bin .gtr (.t 52) (.c (.i .i64 0)), none, []⟩])
 (.cond (.t 53)
 (.draw [⟨(some 54), 56, .faddr 1 1 (.t 3), none, []⟩, ⟨(some 55), 57, .load false 1 (.t 54), none, []⟩, ⟨(some 56), 58, .faddr 1 1 (.t 3), none, []⟩, ⟨(some 57), 59, .load false 1 (.t 56), none, []⟩, ⟨(some 58), 60, .iaddr 1 (.t 57) (.c (.i .i64 0)), none, []⟩, ⟨(some 59), 61, .load false 1 (.t 58), none, []⟩, ⟨(some 60), 62, .bslice 1 1 [(.i .i64 0)] [(0, (.t 59))], none, [0, 1]⟩, ⟨(some 61), 63, .app 1 8 (.t 55) (.t 60), none, []⟩, ⟨(some 62), 64, .faddr 1 1 (.t 3), none, []⟩, ⟨none, 1013009, .store 1 (.t 62) (.t 61), none, []⟩])
 .skip))
 (.seq (.ops [⟨(some 5), 7, .mv (.c (.i .i64 0)), none, []⟩])
 (.block 1 (.loop (.seq (.seq (.ops [⟨(some 8), 10, .mv (.t 5), none, []⟩, ⟨(some 9), 11, .bin .lss (.t 8) (.c (.i .i64 3)), none, []⟩])
 (.cond (.t 9)
 .skip
 (.exit 1)))
 (.seq (.block 2 (.ops [⟨(some 12), 14, .faddr 0 1 (.t 3), none, []⟩, ⟨(some 13), 15, .load false 1 (.t 12), none, []⟩, ⟨(some 14), 16, .bslice 1 1 [(.i .i64 0)] [(0, (.c (.i .i64 0)))], none, []⟩, ⟨(some 15), 17, .app 1 8 (.t 13) (.t 14), none, []⟩, ⟨(some 16), 18, .faddr 0 1 (.t 3), none, []⟩, ⟨none, 1005005, .store 1 (.t 16) (.t 15), none, []⟩]))
 (.ops [⟨(some 10), 12, .mv (.t 5), none, []⟩, ⟨(some 11), 13, .bin .add (.t 10) (.c (.i .i64 1)), none, []⟩, ⟨(some 5), 7, .mv (.t 11), none, []⟩]))))))))))))))
 (.seq (.ops [⟨(some 63), 65, .load true 2 (.t 3), none, []⟩, ⟨none, 1014001, .store 2 (.t 4) (.t 63), none, []⟩])
 .ret)))
theorem k135 : compCode Try.prog Try.f135.ntmps Try.f135.body.get! = some c135 := by kernel_rfl
theorem r135 : resTmps Try.prog Try.f135.results.toList = some [.cell 4 true 2] := by kernel_rfl
def c106 : TCode := (.seq (.ops [⟨(some 3), 5, .box 4 (.t 1), none, []⟩, ⟨(some 4), 6, .box 4 (.c (.ag [(.sl true 1 []), (.sl true 1 []), (.sl true 3 []), (.sl true 4 [])])), none, []⟩])
 (.seq (.seq (.ops [⟨(some 5), 7, .mv (.t 0), none, []⟩, ⟨(some 6), 8, .call 108 [((.t 5), 3), ((.c (.i .i64 6)), 0)], none, []⟩])
 (.block 0 (.seq (.ops [⟨(some 39), 41, .bin .eql (.t 6) (.c (.i .i64 0)), none, []⟩, ⟨(some 38), 40, .mv (.t 39), none, []⟩])
 (.cond (.t 38)
 (.ops [⟨(some 40), 42, .mv (.t 0), none, []⟩, ⟨(some 41), 43, .faddr 0 2 (.t 3), none, []⟩, ⟨(some 42), 44, .load true 2 (.t 41), none, []⟩, ⟨(some 43), 45, .call 135 [((.t 40), 3), ((.t 42), 0)], none, []⟩, ⟨(some 44), 46, .faddr 0 2 (.t 3), none, []⟩, ⟨none, 1005005, .store 2 (.t 44) (.t 43), none, []⟩])
 (.seq (.ops [⟨(some 46), 48, .bin .eql (.t 6) (.c (.i .i64 1)), none, []⟩, ⟨(some 45), 47, .mv (.t 46), none, []⟩])
 (.cond (.t 45)
 (.seq (.ops [⟨(some 47), 49, .faddr 2 1 (.t 3), none, []⟩, ⟨(some 48), 50, .load false 1 (.t 47), none, []⟩, ⟨(some 49), 51, .len false (.t 48), none, []⟩, ⟨(some 50), 52, .bin .gtr (.t 49) (.c (.i .i64 0)), none, []⟩, ⟨(some 51), 53, .mv (.t 50), none, []⟩, ⟨(some 52), 54, .faddr 2 1 (.t 3), (some (51, true)), []⟩, ⟨(some 53), 55, .load false 1 (.t 52), (some (51, true)), []⟩, ⟨(some 54), 56, .iaddr 3 (.t 53) (.c (.i .i64 0)), (some (51, true)), []⟩, ⟨(some 55), 57, .faddr 1 1 (.t 54), (some (51, true)), []⟩, ⟨(some 56), 58, .load false 1 (.t 55), (some (51, true)), []⟩, ⟨(some 57), 59, .len false (.t 56), (some (51, true)), []⟩, ⟨(some 58), 60, .bin .gtr (.t 57) (.c (.i .i64 0)), (some (51, true)), []⟩, ⟨(some 59), 61, .pick (.t 51) (.t 58) (.c (.b false)), none, []⟩])
 (.cond (.t 59)
 (.draw [⟨(some 60), 62, .faddr 2 1 (.t 3), none, []⟩, ⟨(some 61), 63, .load false 1 (.t 60), none, []⟩, ⟨(some 62), 64, .iaddr 3 (.t 61) (.c (.i .i64 0)), none, []⟩, ⟨(some 63), 65, .faddr 1 1 (.t 62), none, []⟩, ⟨(some 64), 66, .load false 1 (.t 63), none, []⟩, ⟨(some 65), 67, .faddr 2 1 (.t 3), none, []⟩, ⟨(some 66), 68, .load false 1 (.t 65), none, []⟩, ⟨(some 67), 69, .iaddr 3 (.t 66) (.c (.i .i64 0)), none, []⟩, ⟨(some 68), 70, .faddr 1 1 (.t 67), none, []⟩, ⟨(some 69), 71, .load false 1 (.t 68), none, []⟩, ⟨(some 70), 72, .iaddr 2 (.t 69) (.c (.i .i64 0)), none, []⟩, ⟨(some 71), 73, .faddr 1 1 (.t 70), none, []⟩, ⟨(some 72), 74, .load false 1 (.t 71), none, []⟩, ⟨(some 73), 75, .bin .add (.t 72) (.c (.i .i64 1)), none, []⟩, ⟨(some 74), 76, .iaddr 2 (.t 64) (.c (.i .i64 0)), none, []⟩, ⟨(some 75), 77, .faddr 1 1 (.t 74), none, []⟩, ⟨none, 1008016, .store 1 (.t 75) (.t 73), none, []⟩])
 .skip))
 (.seq (.ops [⟨(some 77), 79, .bin .eql (.t 6) (.c (.i .i64 2)), none, []⟩, ⟨(some 76), 78, .mv (.t 77), none, []⟩])
 (.cond (.t 76)
 (.seq (.ops [⟨(some 78), 80, .faddr 2 1 (.t 3), none, []⟩, ⟨(some 79), 81, .load false 1 (.t 78), none, []⟩, ⟨(some 80), 82, .len false (.t 79), none, []⟩, ⟨(some 81), 83, .bin .gtr (.t 80) (.c (.i .i64 0)), none, []⟩])
 (.cond (.t 81)
 (.draw [⟨(some 82), 84, .faddr 2 1 (.t 3), none, []⟩, ⟨(some 83), 85, .load false 1 (.t 82), none, []⟩, ⟨(some 84), 86, .bslice 1 0 [(.i .i64 0)] [], none, [0, 1]⟩, ⟨(some 85), 87, .faddr 2 1 (.t 3), none, [2]⟩, ⟨(some 86), 88, .load false 1 (.t 85), none, [2]⟩, ⟨(some 87), 89, .iaddr 3 (.t 86) (.c (.i .i64 0)), none, [2]⟩, ⟨(some 88), 90, .faddr 0 1 (.t 87), none, [2]⟩, ⟨(some 89), 91, .load false 1 (.t 88), none, [2]⟩, ⟨(some 90), 92, .app 1 8 (.t 84) (.t 89), none, [0, 1]⟩, ⟨(some 91), 93, .bslice 1 0 [(.sl true 4 [])] [], none, [0, 1, 2, 3, 4, 5, 6, 7, 8]⟩, ⟨(some 92), 94, .build [(.sl true 1 []), (.sl true 2 []), (.sl true 1 [])] [(0, 1, (.t 90)), (2, 1, (.t 91))], none, []⟩, ⟨(some 93), 95, .bslice 3 1 [(.sl true 1 []), (.sl true 2 []), (.sl true 1 [])] [(0, (.t 92))], none, [0, 1]⟩, ⟨(some 94), 96, .app 3 72 (.t 83) (.t 93), none, []⟩, ⟨(some 95), 97, .faddr 2 1 (.t 3), none, []⟩, ⟨none, 1011014, .store 1 (.t 95) (.t 94), none, []⟩])
 .skip))
 (.seq (.ops [⟨(some 97), 99, .bin .eql (.t 6) (.c (.i .i64 3)), none, []⟩, ⟨(some 96), 98, .mv (.t 97), none, []⟩])
 (.cond (.t 96)
 (.seq (.ops [⟨(some 98), 100, .faddr 3 1 (.t 3), none, []⟩, ⟨(some 99), 101, .load false 1 (.t 98), none, []⟩, ⟨(some 100), 102, .len false (.t 99), none, []⟩, ⟨(some 101), 103, .bin .gtr (.t 100) (.c (.i .i64 0)), none, []⟩])
 (.cond (.t 101)
 (.ops [⟨(some 102), 104, .faddr 3 1 (.t 3), none, []⟩, ⟨(some 103), 105, .load false 1 (.t 102), none, []⟩, ⟨(some 104), 106, .slice false 4 (.t 103) (some (.c (.i .i64 1))) none, none, []⟩, ⟨(some 105), 107, .faddr 3 1 (.t 3), none, []⟩, ⟨none, 1014004, .store 1 (.t 105) (.t 104), none, []⟩])
 .skip))
 (.seq (.ops [⟨(some 107), 109, .bin .eql (.t 6) (.c (.i .i64 4)), none, []⟩, ⟨(some 106), 108, .mv (.t 107), none, []⟩])
 (.cond (.t 106)
 (.seq (.ops [⟨(some 108), 110, .faddr 2 1 (.t 3), none, []⟩, ⟨(some 109), 111, .load false 1 (.t 108), none, []⟩, ⟨(some 110), 112, .len false (.t 109), none, []⟩, ⟨(some 111), 113, .bin .gtr (.t 110) (.c (.i .i64 0)), none, []⟩, ⟨(some 112), 114, .mv (.t 111), none, []⟩, ⟨(some 113), 115, .faddr 2 1 (.t 3), (some (112, true)), []⟩, ⟨(some 114), 116, .load false 1 (.t 113), (some (112, true)), []⟩, ⟨(some 115), 117, .iaddr 3 (.t 114) (.c (.i .i64 0)), (some (112, true)), []⟩, ⟨(some 116), 118, .faddr 2 1 (.t 115), (some (112, true)), []⟩, ⟨(some 117), 119, .load false 1 (.t 116), (some (112, true)), []⟩, ⟨(some 118), 120, .len false (.t 117), (some (112, true)), []⟩, ⟨(some 119), 121, .bin .gtr (.t 118) (.c (.i .i64 0)), (some (112, true)), []⟩, ⟨(some 120), 122, .pick (.t 112) (.t 119) (.c (.b false)), none, []⟩, ⟨(some 121), 123, .mv (.t 120), none, []⟩, ⟨(some 122), 124, .faddr 2 1 (.t 3), (some (121, true)), []⟩, ⟨(some 123), 125, .load false 1 (.t 122), (some (121, true)), []⟩, ⟨(some 124), 126, .iaddr 3 (.t 123) (.c (.i .i64 0)), (some (121, true)), []⟩, ⟨(some 125), 127, .faddr 2 1 (.t 124), (some (121, true)), []⟩, ⟨(some 126), 128, .load false 1 (.t 125), (some (121, true)), []⟩, ⟨(some 127), 129, .iaddr 1 (.t 126) (.c (.i .i64 0)), (some (121, true)), []⟩, ⟨(some 128), 130, .load false 1 (.t 127), (some (121, true)), []⟩, ⟨(some 129), 131, .len false (.t 128), (some (121, true)), []⟩, ⟨(some 130), 132, .bin .gtr (.t 129) (.c (.i .i64 0)), (some (121, true)), []⟩, ⟨(some 131), 133, .pick (.t 121) (.t 130) (.c (.b false)), none, []⟩])
 (.cond (.t 131)
 (.draw [⟨(some 132), 134, .faddr 2 1 (.t 3), none, []⟩, ⟨(some 133), 135, .load false 1 (.t 132), none, []⟩, ⟨(some 134), 136, .iaddr 3 (.t 133) (.c (.i .i64 0)), none, []⟩, ⟨(some 135), 137, .faddr 2 1 (.t 134), none, []⟩, ⟨(some 136), 138, .load false 1 (.t 135), none, []⟩, ⟨(some 137), 139, .iaddr 1 (.t 136) (.c (.i .i64 0)), none, []⟩, ⟨(some 138), 140, .load false 1 (.t 137), none, []⟩, ⟨(some 139), 141, .mv (.t 0), none, []⟩, ⟨(some 140), 142, .call 109 [((.t 139), 3)], none, [0, 1, 2, 3, 4, 5, 6]⟩, ⟨(some 141), 143, .iaddr 4 (.t 138) (.c (.i .i64 0)), none, []⟩, ⟨none, 1017010, .store 4 (.t 141) (.t 140), none, []⟩])
 .skip))
 (.seq (.ops [⟨(some 7), 9, .faddr 2 1 (.t 3), none, []⟩, ⟨(some 8), 10, .load false 1 (.t 7), none, []⟩, ⟨(some 9), 11, .len false (.t 8), none, []⟩, ⟨(some 10), 12, .bin .gtr (.t 9) (.c (.i .i64 0)), none, []⟩, ⟨(some 11), 13, .mv (.t 10), none, []⟩, ⟨(some 12), 14, .faddr 2 1 (.t 3), (some (11, true)), []⟩, ⟨(some 13), 15, .load false 1 (.t 12), (some (11, true)), []⟩, ⟨(some 14), 16, .iaddr 3 (.t 13) (.c (.i .i64 0)), (some (11, true)), []⟩, ⟨(some 15), 17, .faddr 1 1 (.t 14), (some (11, true)), []⟩, ⟨(some 16), 18, .load false 1 (.t 15), (some (11, true)), []⟩, ⟨(some 17), 19, .len false (.t 16), (some (11, true)), []⟩, ⟨(some 18), 20, .bin .gtr (.t 17) (.c (.i .i64 0)), (some (11, true)), []⟩, ⟨(some 19), 21, .pick (.t 11) (.t 18) (.c (.b false)), none, []⟩])
 (.cond (.t 19)
 (.draw [⟨(some 20), 22, .faddr 2 1 (.t 3), none, []⟩, ⟨(some 21), 23, .load false 1 (.t 20), none, []⟩, ⟨(some 22), 24, .faddr 2 1 (.t 3), none, []⟩, ⟨(some 23), 25, .load false 1 (.t 22), none, []⟩, ⟨(some 24), 26, .iaddr 3 (.t 23) (.c (.i .i64 0)), none, []⟩, ⟨(some 25), 27, .faddr 1 1 (.t 24), none, []⟩, ⟨(some 26), 28, .load false 1 (.t 25), none, []⟩, ⟨(some 27), 29, .faddr 2 1 (.t 3), none, []⟩, ⟨(some 28), 30, .load false 1 (.t 27), none, []⟩, ⟨(some 29), 31, .iaddr 3 (.t 28) (.c (.i .i64 0)), none, []⟩, ⟨(some 30), 32, .faddr 1 1 (.t 29), none, []⟩, ⟨(some 31), 33, .load false 1 (.t 30), none, []⟩, ⟨(some 32), 34, .iaddr 2 (.t 31) (.c (.i .i64 0)), none, []⟩, ⟨(some 33), 35, .load true 2 (.t 32), none, []⟩, ⟨(some 34), 36, .bslice 2 1 [(.i .i64 0), (.i .i64 0)] [(0, (.t 33))], none, [0, 1, 2, 3, 4, 5, 6]⟩, ⟨(some 35), 37, .app 2 16 (.t 26) (.t 34), none, [0, 1]⟩, ⟨(some 36), 38, .iaddr 3 (.t 21) (.c (.i .i64 0)), none, []⟩, ⟨(some 37), 39, .faddr 1 1 (.t 36), none, []⟩, ⟨none, 1003018, .store 1 (.t 37) (.t 35), none, []⟩])
 .skip))))))))))))))
 (.seq (.ops [⟨(some 142), 144, .load true 4 (.t 3), none, []⟩, ⟨none, 1018001, .store 4 (.t 4) (.t 142), none, []⟩])
 .ret)))
theorem k106 : compCode Try.prog Try.f106.ntmps Try.f106.body.get! = some c106 := by kernel_rfl
theorem r106 : resTmps Try.prog Try.f106.results.toList = some [.cell 4 true 4] := by kernel_rfl
theorem w104 (bs : List Int) (m : Int) (hb : bs.length ≤ 2^40) : Contract Try.prog false 104 [.ro, .ro] [.sl false 1 (bs.map uT), .i .i64 m] [.i .i64 (if m < 2 + (bs.length : Int).tdiv 20 then m else 2 + (bs.length : Int).tdiv 20)] [] := by
 refine mk_contract [] Try.func104 (c := Try.f104.body.get!) (by kernel_rfl) k104 r104 (of_decide_eq_true rfl) fun _ => ?_
 have e1 : (bs.length : Int).tdiv 20 = ((bs.length : Int) / 20) := Int.tdiv_eq_ediv_of_nonneg (by omega)
 have w1 : IntKind.i64.wrap ((bs.length : Int) / 20) = ((bs.length : Int) / 20) := wrap_id (by omega) (by omega)
 have w2 : IntKind.i64.wrap (2 + ((bs.length : Int) / 20)) = 2 + ((bs.length : Int) / 20) := wrap_id (by omega) (by omega)
 rw [e1]
 unfold c104; simp [e1, w1, w2]
 refine ⟨fun h => ?_, fun h => ?_⟩ <;> omega
def EntsA (bs : List Int) (x : Nat × Int × List Int × List Int) : Prop := x.1 ≤ bs.length ∧ x.2.2.1.length ≤ 2003 ∧ x.2.2.2.length ≤ 2001
set_option maxHeartbeats 2000000 in
set_option maxRecDepth 100000 in
theorem w135 (bs : List Int) (i0 : Nat) (h0 : Int) (g f : List Int) (hb : bs.length ≤ 2^40) (hi0 : i0 ≤ bs.length) (hg : g.length ≤ 2000) (hf : f.length ≤ 2000) : ∃ x : Nat × Int × List Int × List Int, (EntsA bs x) ∧ Contract Try.prog true 135 [.own, .own] [curT bs i0 h0, entsO g f] [entsO x.2.2.1 x.2.2.2] [some (curT bs x.1 x.2.1), none, none] := by
 refine mk_contractE [some [(1, 0)], none, none] Try.func135 (c := Try.f135.body.get!) (by kernel_rfl) k135 r135 (of_decide_eq_true rfl) ?_
 unfold c135; unfold curT entsO; simp
 obtain ⟨⟨i1, h1, y1⟩, ⟨a1, b1, c1⟩, hC1⟩ := w108 bs i0 h0 4 hb hi0
 simp only at a1 b1 c1 hC1
 unfold curT at hC1
 refine callW_ms [.own, .ro] ?_
 simp
 refine callX_of hC1 (by simp) ?_
 have c1' := c1 (by omega)
 have hw3 : IntKind.i64.wrap ((g.length : Int) + 3) = g.length + 3 := wrap_id (by omega) (by omega)
 rcases (by omega : y1 = 0 ∨ y1 = 1 ∨ y1 = 2 ∨ y1 = 3) with rfl | rfl | rfl | rfl
 ·simp [hw3]
  obtain ⟨⟨i2, h2, y2⟩, ⟨a2, b2, c2⟩, hC2⟩ := w108 bs i1 h1 ((g.length : Int) + 3) hb a1
  simp only at a2 b2 c2 hC2
  unfold curT at hC2
  refine callW_ms [.own, .ro] ?_
  simp
  refine callX_of hC2 (by simp) ?_
  simp
  refine ⟨by omega, ?_⟩
  refine exK_of (i2, h2, g, f ++ [IntKind.i64.wrap (y2 - 1)]) ⟨a2, by simp only; omega, by simp; omega⟩ ?_
  simp
 ·simp
  refine ⟨fun hlt => ?_, fun hge => ?_⟩
  ·obtain ⟨⟨i2, h2, y2⟩, ⟨a2, b2, c2⟩, hC2⟩ := w108 bs i1 h1 (g.length : Int) hb a1
   simp only at a2 b2 c2 hC2
   unfold curT at hC2
   have c3 := c2 (by omega)
   refine callW_ms [.own, .ro] ?_
   simp
   refine callX_of hC2 (by simp) ?_
   simp [b2]
   obtain ⟨⟨i3, h3, y3⟩, ⟨a3, b3⟩, hC3⟩ := w125 bs [-1, 1000001] i2 h2 hb a2 (by simp) (by simp)
   simp only at a3 b3 hC3
   unfold curT at hC3
   refine callW_ms [.own, .own] ?_
   simp
   refine callX_of hC3 (by simp) ?_
   obtain ⟨z, hz⟩ : ∃ z, g[y2.toNat]? = some z := get_some (by omega)
   simp [b2, hz]
   refine ⟨c3, ?_⟩
   refine exK_of (i3, h3, g.set y2.toNat y3, f) (show EntsA bs (i3, h3, g.set y2.toNat y3, f) from ⟨a3, by simp; omega, by simp only; omega⟩) ?_
   simp [List.map_set]
  ·refine exK_of (i1, h1, g, f) ⟨a1, by simp only; omega, by simp only; omega⟩ ?_
   simp
 ·simp
  refine ⟨fun hlt => ?_, fun hge => ?_⟩
  ·obtain ⟨z, hz⟩ : ∃ z, f[0]? = some z := get_some (by omega)
   refine ⟨hlt, ?_⟩
   simp [hz]
   refine ⟨by omega, ?_⟩
   refine exK_of (i1, h1, g, f ++ [z]) ⟨a1, by simp only; omega, by simp; omega⟩ ?_
   simp
  ·refine exK_of (i1, h1, g, f) ⟨a1, by simp only; omega, by simp only; omega⟩ ?_
   simp
 ·simp
  refine twp_for 3 (fun j s => ∃ (g : List Int), g.length ≤ 2000 + j ∧ s.t 0 = .pt [(1, 0)] 0 0 ∧ s.t 3 = .pt [(5, 0)] 0 0 ∧ s.t 4 = .pt [(6, 0)] 0 0 ∧ s.t 5 = .i .i64 j ∧ s.H = lk [(1, [.po true [.sl false 1 (bs.map uT), .i .i64 i1, .i .i64 h1], .junk, .junk]), (5, [.po true [.sl true 1 (g.map iT), .sl true 1 (f.map iT)]]), (6, [.po true [.sl true 1 [], .sl true 1 []]])]) [16, 17] (by simp) ?_ ?_
  ·refine ⟨g, by omega, ?_⟩
   simp
  ·rintro j s hj ⟨g, hgl, q0, q3, q4, q5, qH⟩
   rw [nf_of qH]
   have hw : IntKind.i64.wrap ((j : Int) + 1) = j + 1 := wrap_id (by omega) (by omega)
   cases hb9 : decide ((j : Int) < 3)
   ·have hge := of_decide_eq_false hb9
    simp [q0, q3, q4, q5, hb9]
    refine exK_of (i1, h1, g, f) ⟨a1, by simp only; omega, by simp only; omega⟩ ?_
    simp [q4]
   ·have hlt := of_decide_eq_true hb9
    simp [q0, q3, q4, q5, hb9, hw, forK]
    refine ⟨by omega, by omega, g ++ [0], by simp; omega, ?_⟩
    simp
structure WoP (w : WorldP) : Prop where
 g : w.1.length ≤ 2010
 f : w.2.1.length ≤ 2010
 n : w.2.2.1.length ≤ 41
 c : ∀ t ∈ w.2.2.1, t.1.length ≤ 500 ∧ t.2.1.length ≤ 500 ∧ t.2.2.length ≤ 500 ∧ ∀ v ∈ t.2.2, v.length ≤ 500
 v : ∀ t ∈ w.2.2.1, ∀ v ∈ t.2.2, vOkV v
 r : w.2.2.2.length ≤ 20 ∧ vOkV w.2.2.2
theorem WkP.wo {n : Nat} {w : WorldP} (h : WkP n w) (hn : n ≤ 450) : WoP w :=
 ⟨by have := h.gl; omega, by have := h.fl; omega, by have := h.t.m; omega, fun t ht => by
  have h1 := h.t.t t ht
  have := h1.c
  have := h1.r
  have := h1.s
  exact ⟨by omega, by omega, by omega, fun v hv => by have := h1.v v hv; omega⟩, fun t ht => (h.t.t t ht).f, h.r⟩
theorem WoP.hd {g f : List Int} {t t' : TableP} {ts : List TableP} {rs : List ValP} (h : WoP (g, f, t :: ts, rs)) (hc : t'.1.length ≤ 500 ∧ t'.2.1.length ≤ 500 ∧ t'.2.2.length ≤ 500 ∧ ∀ v ∈ t'.2.2, v.length ≤ 500) (hv : ∀ v ∈ t'.2.2, vOkV v) : WoP (g, f, t' :: ts, rs) :=
 ⟨h.g, h.f, h.n, fun x hx => by
  rcases List.mem_cons.1 hx with rfl | hx
  ·exact hc
  ·exact h.c x (by simp [hx]), fun x hx => by
  rcases List.mem_cons.1 hx with rfl | hx
  ·exact hv
  ·exact h.v x (by simp [hx]), h.r⟩
theorem tk_one (x : List TV) (rs : List ValP) : List.take rs.length (List.drop (offE 1 rs.length) (x :: rs.map vT)) = rs.map vT := by
 unfold offE
 split
 ·rename_i h
  rw [h, List.take_zero, List.eq_nil_of_length_eq_zero h]; rfl
 ·rw [List.drop_one, List.tail_cons, List.take_of_length_le (by simp)]
def SpoiltD (bs : List Int) (x : Nat × Int × WorldP) : Prop := x.1 ≤ bs.length ∧ WoP x.2.2
set_option maxHeartbeats 8000000 in
set_option maxRecDepth 100000 in
theorem w106 (bs : List Int) (i0 : Nat) (h0 : Int) (g f : List Int) (ts : List TableP) (rs : List ValP) (hb : bs.length ≤ 2^40) (hi0 : i0 ≤ bs.length) (hW : WkP 450 (g, f, ts, rs)) : ∃ x : Nat × Int × WorldP, (SpoiltD bs x) ∧ Contract Try.prog true 106 [.own, .own] [curT bs i0 h0, worldO g f ts rs] [worldO x.2.2.1 x.2.2.2.1 x.2.2.2.2.1 x.2.2.2.2.2] [some (curT bs x.1 x.2.1), none, none, none, none] := by
 refine mk_contractE [some [(1, 0)], none, none, none, none] Try.func106 (c := Try.f106.body.get!) (by kernel_rfl) k106 r106 (of_decide_eq_true rfl) ?_
 have hgl := hW.gl
 have hfl := hW.fl
 have ht40 := hW.t.m
 have hWo := hW.wo (by omega)
 simp only at hgl hfl ht40
 unfold c106; unfold curT worldO; simp
 obtain ⟨⟨i1, h1, y1⟩, ⟨a1, b1, c1⟩, hC1⟩ := w108 bs i0 h0 6 hb hi0
 simp only at a1 b1 c1 hC1
 unfold curT at hC1
 refine callW_ms [.own, .ro] ?_
 simp
 refine callX_of hC1 (by simp) ?_
 have c1' := c1 (by omega)
 rcases ts with _ | ⟨⟨tc, tr, tv⟩, ts⟩
 ·have done : SpoiltD bs (i1, h1, g, f, [], rs) := ⟨a1, hWo⟩
  rcases (by omega : y1 = 0 ∨ y1 = 1 ∨ y1 = 2 ∨ y1 = 3 ∨ y1 = 4 ∨ y1 = 5) with rfl | rfl | rfl | rfl | rfl | rfl
  ·simp
   obtain ⟨⟨i2, h2, g2, f2⟩, hE, hC2⟩ := w135 bs i1 h1 g f hb a1 (by omega) (by omega)
   simp only at hC2
   unfold curT entsO at hC2
   refine callW_ms [.own, .own] ?_
   simp
   refine callX_of hC2 (by simp) ?_
   simp
   obtain ⟨a2, hg2, hf2⟩ := hE
   simp only at a2 hg2 hf2
   refine exK_of (i2, h2, g2, f2, [], rs) ⟨a2, ⟨by simp only; omega, by simp only; omega, hWo.n, hWo.c, hWo.v, hWo.r⟩⟩ ?_
   simp
  ·simp
   refine exK_of (i1, h1, g, f, [], rs) done ?_
   simp
  ·simp
   refine exK_of (i1, h1, g, f, [], rs) done ?_
   simp
  ·cases rs with
   | nil =>
    simp
    refine exK_of (i1, h1, g, f, [], []) done ?_
    simp
   | cons v rs =>
    simp
    refine ⟨by omega, ?_⟩
    rw [tk_one]
    have hr := hWo.r
    refine exK_of (i1, h1, g, f, [], rs) ⟨a1, ⟨hWo.g, hWo.f, hWo.n, hWo.c, hWo.v, by have := hr.1; simp at this ⊢; omega, fun x hx => hr.2 x (List.mem_cons_of_mem _ hx)⟩⟩ ?_
    simp
  ·simp
   refine exK_of (i1, h1, g, f, [], rs) done ?_
   simp
  ·simp
   refine exK_of (i1, h1, g, f, [], rs) done ?_
   simp
 ·have done : SpoiltD bs (i1, h1, g, f, (tc, tr, tv) :: ts, rs) := ⟨a1, hWo⟩
  have hT := hW.t.t (tc, tr, tv) (by simp)
  have hTc := hT.c
  have hTr := hT.r
  have hTs := hT.s
  simp only at hTc hTr hTs
  have hc0 := hWo.c _ List.mem_cons_self
  have hv0 := hWo.v _ List.mem_cons_self
  simp only at hc0 hv0
  simp only [List.length_cons] at ht40
  rcases (by omega : y1 = 0 ∨ y1 = 1 ∨ y1 = 2 ∨ y1 = 3 ∨ y1 = 4 ∨ y1 = 5) with rfl | rfl | rfl | rfl | rfl | rfl
  ·simp
   obtain ⟨⟨i2, h2, g2, f2⟩, hE, hC2⟩ := w135 bs i1 h1 g f hb a1 (by omega) (by omega)
   simp only at hC2
   unfold curT entsO at hC2
   refine callW_ms [.own, .own] ?_
   simp
   refine callX_of hC2 (by simp) ?_
   simp
   obtain ⟨a2, hg2, hf2⟩ := hE
   simp only at a2 hg2 hf2
   refine exK_of (i2, h2, g2, f2, (tc, tr, tv) :: ts, rs) ⟨a2, ⟨by simp only; omega, by simp only; omega, hWo.n, hWo.c, hWo.v, hWo.r⟩⟩ ?_
   simp
  ·cases tr with
   | nil =>
    simp
    refine exK_of (i1, h1, g, f, (tc, [], tv) :: ts, rs) done ?_
    simp
   | cons e tr =>
    simp
    refine exK_of (i1, h1, g, f, (tc, (e.1, IntKind.i64.wrap (e.2 + 1)) :: tr, tv) :: ts, rs) ⟨a1, hWo.hd ⟨by simp only; omega, by simpa using hc0.2.1, by simp only; omega, hc0.2.2.2⟩ hv0⟩ ?_
    simp
  ·simp [takeRows]
   refine ⟨by omega, by omega, ?_⟩
   refine exK_of (i1, h1, g, f, (tc, tr, tv) :: (ts ++ [(tc, [], [])]), rs) ⟨a1, ⟨hWo.g, hWo.f, by simp; omega, fun x hx => ?_, fun x hx => ?_, hWo.r⟩⟩ ?_
   ·rw [← List.cons_append] at hx
    rcases List.mem_append.1 hx with hx | hx
    ·exact hWo.c x hx
    ·rw [List.mem_singleton.1 hx]; exact ⟨by simp only; omega, by simp, by simp, fun v hv => by cases hv⟩
   ·rw [← List.cons_append] at hx
    rcases List.mem_append.1 hx with hx | hx
    ·exact hWo.v x hx
    ·rw [List.mem_singleton.1 hx]; exact fun v hv => by cases hv
   ·simp
  ·cases rs with
   | nil =>
    simp
    refine exK_of (i1, h1, g, f, (tc, tr, tv) :: ts, []) done ?_
    simp
   | cons v rs =>
    simp
    refine ⟨by omega, ?_⟩
    rw [tk_one]
    have hr := hWo.r
    refine exK_of (i1, h1, g, f, (tc, tr, tv) :: ts, rs) ⟨a1, ⟨hWo.g, hWo.f, hWo.n, hWo.c, hWo.v, by have := hr.1; simp at this ⊢; omega, fun x hx => hr.2 x (List.mem_cons_of_mem _ hx)⟩⟩ ?_
    simp
  ·cases tv with
   | nil =>
    simp
    refine exK_of (i1, h1, g, f, (tc, tr, []) :: ts, rs) done ?_
    simp
   | cons vs tv =>
    cases vs with
    | nil =>
     simp
     refine exK_of (i1, h1, g, f, (tc, tr, [] :: tv) :: ts, rs) done ?_
     simp
    | cons v vs =>
     simp
     obtain ⟨⟨i2, h2, v2⟩, ⟨a2, b2, c2⟩, hC2⟩ := w109 bs i1 h1 hb a1
     simp only at a2 b2 hC2
     unfold curT valV at hC2
     refine callW_ms [.own] ?_
     simp
     refine callX_of hC2 (by simp) ?_
     simp
     refine exK_of (i2, h2, g, f, (tc, tr, (v2 :: vs) :: tv) :: ts, rs) ⟨a2, hWo.hd ⟨by simp only; omega, by simp only; omega, by simpa using hc0.2.2.1, fun u hu => ?_⟩ fun u hu => ?_⟩ ?_
     ·rcases List.mem_cons.1 hu with rfl | hu
      ·have := hc0.2.2.2 (v :: vs) (by simp)
       simpa using this
      ·exact hc0.2.2.2 u (by simp [hu])
     ·rcases List.mem_cons.1 hu with rfl | hu
      ·intro x hx
       rcases List.mem_cons.1 hx with rfl | hx
       ·exact b2
       ·exact hv0 (v :: vs) (by simp) x (by simp [hx])
      ·exact hv0 u (by simp [hu])
     ·simp
  ·cases tr with
   | nil =>
    simp
    refine exK_of (i1, h1, g, f, (tc, [], tv) :: ts, rs) done ?_
    simp
   | cons e tr =>
    simp
    simp only [List.length_cons] at hTr
    refine ⟨by omega, ?_⟩
    refine exK_of (i1, h1, g, f, (tc, e :: (tr ++ [e]), tv) :: ts, rs) ⟨a1, hWo.hd ⟨by simp only; omega, by simp; omega, by simp only; omega, hc0.2.2.2⟩ hv0⟩ ?_
    simp
end Go.Proofs.YtehmdblkkpdmoaaT


namespace Go.Proofs.YtehmdblkkpdmoaaT
set_option linter.unusedVariables false
set_option linter.unusedSimpArgs false
open Go
def c68 : TCode := (.seq (.ops [⟨(some 4), 6, .box 3 (.c (.ag [(.sl true 2 []), (.sl true 2 []), (.sl true 2 [])])), none, []⟩, ⟨(some 5), 7, .box 4 (.c (.ag [(.sl true 1 []), (.sl true 1 []), (.sl true 3 []), (.sl true 4 [])])), none, []⟩])
 (.seq (.ops [⟨(some 8), 10, .mv (.t 0), none, []⟩, ⟨(some 9), 11, .call 101 [((.t 8), 3)], none, []⟩, ⟨(some 6), 8, .box 3 (.c (.ag [(.sl true 2 []), (.sl true 2 []), (.sl true 2 [])])), none, []⟩, ⟨none, 1001003, .store 3 (.t 6) (.t 9), none, []⟩])
 (.seq (.seq (.ops [⟨(some 10), 12, .load true 3 (.t 6), none, []⟩, ⟨(some 11), 13, .call 33 [((.t 10), 0)], none, []⟩, ⟨(some 12), 14, .un .not (.t 11), none, []⟩])
 (.cond (.t 12)
 (.seq (.draw [⟨(some 13), 15, .load true 3 (.t 6), none, []⟩, ⟨(some 14), 16, .mv (.t 0), none, []⟩, ⟨(some 15), 17, .call 103 [], none, [0, 1]⟩, ⟨(some 16), 18, .call 102 [((.t 14), 3), ((.t 15), 0), ((.c (.i .i64 3)), 0)], none, [0]⟩, ⟨none, 1003004, .store 3 (.t 4) (.t 13), none, []⟩, ⟨none, 1003005, .store 4 (.t 5) (.t 16), none, []⟩])
 .ret)
 .skip))
 (.seq (.draw [⟨(some 17), 19, .mv (.t 0), none, []⟩, ⟨(some 18), 20, .load true 3 (.t 6), none, []⟩, ⟨(some 19), 21, .mv (.t 1), none, []⟩, ⟨(some 20), 22, .call 104 [((.t 19), 0), ((.c (.i .i64 24)), 0)], none, [0, 1]⟩, ⟨(some 21), 23, .call 102 [((.t 17), 3), ((.t 18), 0), ((.t 20), 0)], none, []⟩, ⟨(some 7), 9, .box 4 (.c (.ag [(.sl true 1 []), (.sl true 1 []), (.sl true 3 []), (.sl true 4 [])])), none, [0, 1, 2, 3, 4]⟩, ⟨none, 1004006, .store 4 (.t 7) (.t 21), none, []⟩])
 (.seq (.seq (.ops [⟨(some 22), 24, .mv (.t 0), none, []⟩, ⟨(some 23), 25, .call 105 [((.t 22), 3), ((.c (.i .i64 6)), 0)], none, []⟩])
 (.cond (.t 23)
 (.ops [⟨(some 24), 26, .mv (.t 0), none, []⟩, ⟨(some 25), 27, .load true 4 (.t 7), none, []⟩, ⟨(some 26), 28, .call 106 [((.t 24), 3), ((.t 25), 0)], none, []⟩, ⟨none, 1006003, .store 4 (.t 7) (.t 26), none, []⟩])
 .skip))
 (.seq (.draw [⟨(some 27), 29, .load true 3 (.t 6), none, []⟩, ⟨(some 28), 30, .load true 4 (.t 7), none, []⟩, ⟨none, 1007002, .store 3 (.t 4) (.t 27), none, [1000000, 1]⟩, ⟨none, 1007003, .store 4 (.t 5) (.t 28), none, []⟩])
 .ret))))))
theorem k68 : compCode Try.prog Try.f68.ntmps Try.f68.body.get! = some c68 := by kernel_rfl
theorem r68 : resTmps Try.prog Try.f68.results.toList = some [.cell 4 true 3, .cell 5 true 4] := by kernel_rfl
def c25 : TCode := (.seq (.ops [⟨(some 2), 4, .box 3 (.c (.ag [(.sl true 2 []), (.sl true 2 []), (.sl true 2 [])])), none, []⟩, ⟨(some 3), 5, .box 4 (.c (.ag [(.sl true 1 []), (.sl true 1 []), (.sl true 3 []), (.sl true 4 [])])), none, []⟩, ⟨(some 4), 6, .box 2 (.c (.ag [(.i .i64 0), (.i .i64 0)])), none, []⟩, ⟨(some 5), 7, .mv (.c (.i .i64 0)), none, []⟩])
 (.seq (.ops [⟨(some 12), 14, .mv (.t 0), none, []⟩, ⟨(some 13), 15, .call 67 [((.t 12), 0)], none, []⟩, ⟨(some 6), 8, .mv (.t 13), none, []⟩])
 (.seq (.ops [⟨(some 15), 17, .mv (.t 6), none, []⟩, ⟨(some 16), 18, .mv (.t 0), none, []⟩, ⟨(some 17), 19, .call 68 [((.t 15), 3), ((.t 16), 0)], none, []⟩, ⟨(some 14), 16, .mv (.t 17), none, []⟩, ⟨(some 18), 20, .ext 0 (.t 14), none, []⟩, ⟨(some 19), 21, .ext 1 (.t 14), none, []⟩, ⟨(some 7), 9, .box 3 (.c (.ag [(.sl true 2 []), (.sl true 2 []), (.sl true 2 [])])), none, []⟩, ⟨(some 8), 10, .box 4 (.c (.ag [(.sl true 1 []), (.sl true 1 []), (.sl true 3 []), (.sl true 4 [])])), none, []⟩, ⟨none, 1002008, .store 3 (.t 7) (.t 18), none, []⟩, ⟨none, 1002009, .store 4 (.t 8) (.t 19), none, []⟩])
 (.seq (.ops [⟨(some 20), 22, .mv (.t 6), none, []⟩, ⟨(some 21), 23, .load true 4 (.t 8), none, []⟩, ⟨(some 22), 24, .call 69 [((.t 20), 3), ((.t 21), 0)], none, []⟩, ⟨(some 9), 11, .box 2 (.c (.ag [(.i .i64 0), (.i .i64 0)])), none, []⟩, ⟨none, 1003004, .store 2 (.t 9) (.t 22), none, []⟩])
 (.seq (.ops [⟨(some 24), 26, .mv (.t 6), none, []⟩, ⟨(some 25), 27, .load true 3 (.t 7), none, []⟩, ⟨(some 26), 28, .call 70 [((.t 24), 3), ((.t 25), 0)], none, []⟩, ⟨(some 23), 25, .mv (.t 26), none, []⟩, ⟨(some 27), 29, .ext 0 (.t 23), none, []⟩, ⟨(some 28), 30, .ext 1 (.t 23), none, []⟩, ⟨(some 11), 13, .box 4 (.c (.ag [(.i .i64 0), (.i .i64 0), (.f 0), (.f 0)])), none, []⟩, ⟨(some 10), 12, .mv (.t 27), none, []⟩, ⟨none, 1004008, .store 4 (.t 11) (.t 28), none, []⟩])
 (.seq (.draw [⟨(some 29), 31, .load true 3 (.t 7), none, []⟩, ⟨(some 30), 32, .load true 4 (.t 8), none, []⟩, ⟨(some 31), 33, .load true 2 (.t 9), none, []⟩, ⟨(some 32), 34, .mv (.t 10), none, []⟩, ⟨none, 1005004, .store 3 (.t 2) (.t 29), none, [1, 2, 3]⟩, ⟨none, 1005005, .store 4 (.t 3) (.t 30), none, [2, 3]⟩, ⟨none, 1005006, .store 2 (.t 4) (.t 31), none, [1000000, 3]⟩, ⟨(some 5), 7, .mv (.t 32), none, []⟩])
 .ret))))))
theorem k25 : compCode Try.prog Try.f25.ntmps Try.f25.body.get! = some c25 := by kernel_rfl
theorem r25 : resTmps Try.prog Try.f25.results.toList = some [.cell 2 true 3, .cell 3 true 4, .cell 4 true 2, .tmp 5] := by kernel_rfl
abbrev RegP := DcP × DcP × DcP
def BothD (bs : List Int) (x : Nat × Int × RegP × WorldP) : Prop := x.1 ≤ bs.length ∧ (smallD x.2.2.1.1 ∧ smallD x.2.2.1.2.1 ∧ smallD x.2.2.1.2.2) ∧ WoP x.2.2.2
set_option maxHeartbeats 8000000 in
set_option maxRecDepth 100000 in
theorem w68 (bs : List Int) (i0 : Nat) (h0 : Int) (cs : List Int) (hb : bs.length ≤ 2^40) (hi0 : i0 ≤ bs.length) (hcs : cs.length ≤ 2^40) : ∃ x : Nat × Int × RegP × WorldP, (BothD bs x) ∧ Contract Try.prog true 68 [.own, .ro] [curT bs i0 h0, .sl false 1 (cs.map uT)] [regO x.2.2.1.1 x.2.2.1.2.1 x.2.2.1.2.2, worldO x.2.2.2.1 x.2.2.2.2.1 x.2.2.2.2.2.1 x.2.2.2.2.2.2] [some (curT bs x.1 x.2.1)] := by
 refine mk_contractE [some [(1, 0)]] Try.func68 (c := Try.f68.body.get!) (by kernel_rfl) k68 r68 (of_decide_eq_true rfl) ?_
 unfold c68; unfold curT regO worldO; simp
 obtain ⟨⟨i1, h1, c, r, d⟩, ⟨a1, sc, sr, sd⟩, hC1⟩ := w101 bs i0 h0 hb hi0
 simp only at a1 sc sr sd hC1
 unfold curT regO at hC1
 refine callW_ms [.own] ?_
 simp
 refine callX_of hC1 (by simp) ?_
 simp
 have hR := w33 c r d (by have := sc.1; omega) (by have := sr.1; omega) (by have := sd.1; omega)
 unfold regR at hR
 refine callW_ms [.ro] ?_
 simp
 refine callX_of hR (by simp) ?_
 cases decide (RegOkP c r d) with
 | false =>
  simp
  obtain ⟨⟨c2, r2, d2⟩, ⟨_, sc2, sr2, sd2⟩, hC2⟩ := w103
  simp only at sc2 sr2 sd2 hC2
  unfold regO at hC2
  refine callW_ms [] ?_
  simp
  refine callX_of hC2 (by simp) ?_
  simp
  obtain ⟨⟨i5, h5, w5⟩, ⟨a5, hw⟩, hC5⟩ := w102 bs i1 h1 c2 r2 d2 3 hb a1 sc2.1 sr2.1 sd2.1 (by omega)
  simp only at a5 hw hC5
  unfold curT worldO regO at hC5
  refine callW_ms [.own, .own, .ro] ?_
  simp
  refine callX_of hC5 (by simp) ?_
  simp
  refine exK_of (i5, h5, (c, r, d), w5) ⟨a5, ⟨sc, sr, sd⟩, hw.wo (by omega)⟩ ?_
  simp
 | true =>
  simp
  have hS := w104 cs 24 hcs
  obtain ⟨N, hN, hN24⟩ : ∃ N : Nat, (if (24 : Int) < 2 + (cs.length : Int).tdiv 20 then 24 else 2 + (cs.length : Int).tdiv 20) = (N : Int) ∧ N ≤ 24 := by
   have e1 : (cs.length : Int).tdiv 20 = ((cs.length : Int) / 20) := Int.tdiv_eq_ediv_of_nonneg (by omega)
   rw [e1]
   split
   ·exact ⟨24, rfl, by omega⟩
   ·exact ⟨(2 + (cs.length : Int) / 20).toNat, by omega, by omega⟩
  rw [hN] at hS
  refine callW_ms [.ro, .ro] ?_
  simp
  refine callX_of hS (by simp) ?_
  simp
  obtain ⟨⟨i2, h2, w2⟩, ⟨a2, hw2⟩, hC2⟩ := w102 bs i1 h1 c r d N hb a1 sc.1 sr.1 sd.1 (by omega)
  simp only at a2 hw2 hC2
  unfold curT worldO regO at hC2
  refine callW_ms [.own, .own, .ro] ?_
  simp
  refine callX_of hC2 (by simp) ?_
  simp
  obtain ⟨⟨i3, h3, y3⟩, a3, hC3⟩ := w105 bs i2 h2 6 hb a2
  simp only at a3 hC3
  unfold curT at hC3
  refine callW_ms [.own, .ro] ?_
  simp
  refine callX_of hC3 (by simp) ?_
  cases y3 with
  | false =>
   simp
   refine exK_of (i3, h3, (c, r, d), w2) ⟨a3, ⟨sc, sr, sd⟩, hw2.wo (by omega)⟩ ?_
   simp
  | true =>
   simp
   obtain ⟨⟨i4, h4, w4⟩, ⟨a4, hw4⟩, hC4⟩ := w106 bs i3 h3 w2.1 w2.2.1 w2.2.2.1 w2.2.2.2 hb a3 (hw2.mono (by omega))
   simp only at a4 hw4 hC4
   unfold curT worldO at hC4
   refine callW_ms [.own, .own] ?_
   simp
   refine callX_of hC4 (by simp) ?_
   simp
   refine exK_of (i4, h4, (c, r, d), w4) ⟨a4, ⟨sc, sr, sd⟩, hw4⟩ ?_
   simp
def GetD (x : RegP × WorldP × (Int × Int) × Int) : Prop := (smallD x.1.1 ∧ smallD x.1.2.1 ∧ smallD x.1.2.2) ∧ WoP x.2.1
set_option maxHeartbeats 8000000 in
set_option maxRecDepth 100000 in
theorem w25 (bs : List Int) (hb : bs.length ≤ 2^40) : ∃ x : RegP × WorldP × (Int × Int) × Int, (GetD x) ∧ Contract Try.prog false 25 [.ro] [.sl false 1 (bs.map uT)] [regO x.1.1 x.1.2.1 x.1.2.2, worldO x.2.1.1 x.2.1.2.1 x.2.1.2.2.1 x.2.1.2.2.2, .ag (eT x.2.2.1), .i .i64 x.2.2.2] [] := by
 refine mk_contractE [] Try.func25 (c := Try.f25.body.get!) (by kernel_rfl) k25 r25 (of_decide_eq_true rfl) ?_
 unfold c25; unfold regO worldO; simp
 obtain ⟨h0, -, hC0⟩ := w67 bs hb
 unfold curT at hC0
 refine callW_ms [.ro] ?_
 simp
 refine callX_of hC0 (by simp) ?_
 simp
 obtain ⟨⟨i1, h1, ⟨c, r, d⟩, w⟩, ⟨a1, ⟨sc, sr, sd⟩, hw⟩, hC1⟩ := w68 bs 0 h0 bs hb (by omega) hb
 simp only at a1 sc sr sd hw hC1
 unfold curT regO worldO at hC1
 refine callW_ms [.own, .ro] ?_
 simp
 refine callX_of hC1 (by simp) ?_
 simp
 have hwg := hw.g
 have hwf := hw.f
 obtain ⟨⟨i2, h2, e2⟩, a2, hC2⟩ := w69 bs i1 h1 w.1 w.2.1 w.2.2.1 w.2.2.2 hb a1 (by omega) (by omega)
 simp only at a2 hC2
 unfold curT worldO at hC2
 refine callW_ms [.own, .own] ?_
 simp
 refine callX_of hC2 (by simp) ?_
 simp
 obtain ⟨⟨i3, h3, k3, v3⟩, ⟨a3, b3⟩, hC3⟩ := w70 bs i2 h2 c r d hb a2 sc.1
 simp only at a3 b3 hC3
 unfold curT regO valV at hC3
 refine callW_ms [.own, .own] ?_
 simp
 refine callX_of hC3 (by simp) ?_
 simp
 refine exK_of ((c, r, d), w, e2, k3) ⟨⟨sc, sr, sd⟩, hw⟩ ?_
 simp
end Go.Proofs.YtehmdblkkpdmoaaT


namespace Go.Proofs.YtehmdblkkpdmoaaT
set_option linter.unusedVariables false
set_option linter.unusedSimpArgs false
open Go
def c6 : TCode := (.seq (.ops [⟨(some 2), 4, .mv (.c (.b false)), none, []⟩])
 (.seq (.seq (.ops [⟨(some 25), 27, .mv (.t 0), none, []⟩, ⟨(some 26), 28, .call 24 [((.t 25), 0)], none, []⟩])
 (.cond (.t 26)
 (.seq (.ops [⟨(some 2), 4, .mv (.c (.b true)), none, []⟩])
 .ret)
 .skip))
 (.seq (.ops [⟨(some 28), 30, .mv (.t 0), none, []⟩, ⟨(some 29), 31, .call 25 [((.t 28), 0)], none, []⟩, ⟨(some 27), 29, .mv (.t 29), none, []⟩, ⟨(some 30), 32, .ext 0 (.t 27), none, []⟩, ⟨(some 31), 33, .ext 1 (.t 27), none, []⟩, ⟨(some 32), 34, .ext 2 (.t 27), none, []⟩, ⟨(some 33), 35, .ext 3 (.t 27), none, []⟩, ⟨(some 3), 5, .box 3 (.c (.ag [(.sl true 2 []), (.sl true 2 []), (.sl true 2 [])])), none, []⟩, ⟨(some 4), 6, .box 4 (.c (.ag [(.sl true 1 []), (.sl true 1 []), (.sl true 3 []), (.sl true 4 [])])), none, []⟩, ⟨(some 5), 7, .box 2 (.c (.ag [(.i .i64 0), (.i .i64 0)])), none, []⟩, ⟨none, 1003010, .store 3 (.t 3) (.t 30), none, []⟩, ⟨none, 1003011, .store 4 (.t 4) (.t 31), none, []⟩, ⟨none, 1003012, .store 2 (.t 5) (.t 32), none, []⟩, ⟨(some 6), 8, .mv (.t 33), none, []⟩])
 (.seq (.seq (.ops [⟨(some 34), 36, .load true 3 (.t 3), none, []⟩, ⟨(some 35), 37, .load true 4 (.t 4), none, []⟩, ⟨(some 36), 38, .call 9 [((.t 34), 0), ((.t 35), 0)], none, []⟩, ⟨(some 37), 39, .un .not (.t 36), none, []⟩, ⟨(some 38), 40, .mv (.t 37), none, []⟩, ⟨(some 39), 41, .faddr 0 1 (.t 3), (some (38, false)), []⟩, ⟨(some 40), 42, .load false 1 (.t 39), (some (38, false)), []⟩, ⟨(some 41), 43, .len false (.t 40), (some (38, false)), []⟩, ⟨(some 42), 44, .bin .lss (.t 41) (.c (.i .i64 2)), (some (38, false)), []⟩, ⟨(some 43), 45, .pick (.t 38) (.c (.b true)) (.t 42), none, []⟩])
 (.cond (.t 43)
 (.seq (.ops [⟨(some 2), 4, .mv (.c (.b true)), none, []⟩])
 .ret)
 .skip))
 (.seq (.draw [⟨(some 44), 46, .mv (.t 0), none, []⟩, ⟨(some 45), 47, .call 26 [((.t 44), 0), ((.c (.i .i64 1)), 0)], none, []⟩, ⟨(some 46), 48, .faddr 0 1 (.t 3), none, [1]⟩, ⟨(some 47), 49, .load false 1 (.t 46), none, [1]⟩, ⟨(some 48), 50, .len false (.t 47), none, [1]⟩, ⟨(some 49), 51, .bin .rem (.t 45) (.t 48), none, []⟩, ⟨(some 7), 9, .mv (.t 49), none, []⟩])
 (.seq (.ops [⟨(some 50), 52, .bslice 1 0 [(.i .i64 0)] [], none, []⟩, ⟨(some 51), 53, .mv (.t 7), none, []⟩, ⟨(some 52), 54, .bslice 1 1 [(.i .i64 0)] [(0, (.t 51))], none, []⟩, ⟨(some 8), 10, .mv (.t 50), none, []⟩, ⟨(some 9), 11, .mv (.t 52), none, []⟩])
 (.seq (.seq (.ops [⟨(some 53), 55, .mv (.t 6), none, []⟩, ⟨(some 54), 56, .bin .geq (.t 53) (.c (.i .i64 0)), none, []⟩, ⟨(some 55), 57, .mv (.t 54), none, []⟩, ⟨(some 56), 58, .mv (.t 6), (some (55, true)), []⟩, ⟨(some 57), 59, .faddr 0 1 (.t 3), (some (55, true)), []⟩, ⟨(some 58), 60, .load false 1 (.t 57), (some (55, true)), []⟩, ⟨(some 59), 61, .len false (.t 58), (some (55, true)), []⟩, ⟨(some 60), 62, .bin .lss (.t 56) (.t 59), (some (55, true)), []⟩, ⟨(some 61), 63, .pick (.t 55) (.t 60) (.c (.b false)), none, []⟩, ⟨(some 62), 64, .mv (.t 61), none, []⟩, ⟨(some 63), 65, .mv (.t 6), (some (62, true)), []⟩, ⟨(some 64), 66, .mv (.t 7), (some (62, true)), []⟩, ⟨(some 65), 67, .bin .neq (.t 63) (.t 64), (some (62, true)), []⟩, ⟨(some 66), 68, .pick (.t 62) (.t 65) (.c (.b false)), none, []⟩])
 (.cond (.t 66)
 (.ops [⟨(some 67), 69, .mv (.t 8), none, []⟩, ⟨(some 68), 70, .mv (.t 6), none, []⟩, ⟨(some 69), 71, .bslice 1 1 [(.i .i64 0)] [(0, (.t 68))], none, []⟩, ⟨(some 70), 72, .app 1 8 (.t 67) (.t 69), none, []⟩, ⟨(some 8), 10, .mv (.t 70), none, []⟩])
 .skip))
 (.seq (.ops [⟨(some 71), 73, .load true 4 (.t 4), none, []⟩, ⟨(some 72), 74, .mv (.t 8), none, []⟩, ⟨(some 73), 75, .mv (.t 9), none, []⟩, ⟨(some 74), 76, .call 27 [((.t 71), 0), ((.t 72), 0), ((.t 73), 0)], none, []⟩, ⟨(some 10), 12, .mv (.t 74), none, []⟩])
 (.seq (.ops [⟨(some 75), 77, .faddr 0 2 (.t 4), none, []⟩, ⟨(some 76), 78, .load true 2 (.t 75), none, []⟩, ⟨(some 77), 79, .call 28 [((.t 76), 0)], none, []⟩, ⟨(some 11), 13, .mv (.t 77), none, []⟩])
 (.seq (.ops [⟨(some 12), 14, .mv (.c (.i .i64 0)), none, []⟩])
 (.seq (.seq (.ops [⟨(some 13), 15, .mv (.c (.i .i64 0)), none, []⟩])
 (.block 0 (.loop (.seq (.seq (.ops [⟨(some 78), 80, .mv (.t 13), none, []⟩, ⟨(some 79), 81, .mv (.t 11), none, []⟩, ⟨(some 80), 82, .len false (.t 79), none, []⟩, ⟨(some 81), 83, .bin .lss (.t 78) (.t 80), none, []⟩])
 (.cond (.t 81)
 .skip
 (.exit 0)))
 (.seq (.block 1 (.seq (.draw [⟨(some 85), 87, .load true 3 (.t 3), none, []⟩, ⟨(some 86), 88, .load true 4 (.t 4), none, []⟩, ⟨(some 87), 89, .mv (.t 11), none, []⟩, ⟨(some 88), 90, .mv (.t 13), none, []⟩, ⟨(some 89), 91, .iaddr 2 (.t 87) (.t 88), none, []⟩, ⟨(some 90), 92, .load true 2 (.t 89), none, []⟩, ⟨(some 91), 93, .mv (.t 7), none, []⟩, ⟨(some 92), 94, .call 15 [((.t 85), 0), ((.t 86), 0), ((.t 90), 0), ((.t 91), 0)], none, []⟩, ⟨(some 84), 86, .mv (.t 92), none, []⟩, ⟨(some 93), 95, .ext 0 (.t 84), none, []⟩, ⟨(some 94), 96, .ext 1 (.t 84), none, []⟩, ⟨(some 14), 16, .box 4 (.c (.ag [(.i .i64 0), (.i .i64 0), (.f 0), (.f 0)])), none, [0, 1, 2, 3, 4, 5, 6, 7, 8, 9, 10]⟩, ⟨none, 1016012, .store 4 (.t 14) (.t 93), none, [1000000, 10]⟩, ⟨(some 15), 17, .mv (.t 94), none, []⟩])
 (.seq (.ops [⟨(some 95), 97, .mv (.t 15), none, []⟩, ⟨(some 96), 98, .un .not (.t 95), none, []⟩, ⟨(some 16), 18, .mv (.t 96), none, []⟩])
 (.seq (.seq (.ops [⟨(some 97), 99, .mv (.t 8), none, []⟩, ⟨(some 98), 100, .len false (.t 97), none, []⟩, ⟨(some 99), 101, .bin .gtr (.t 98) (.c (.i .i64 0)), none, []⟩])
 (.cond (.t 99)
 (.seq (.draw [⟨(some 101), 103, .load true 3 (.t 3), none, []⟩, ⟨(some 102), 104, .load true 4 (.t 4), none, []⟩, ⟨(some 103), 105, .mv (.t 11), none, []⟩, ⟨(some 104), 106, .mv (.t 13), none, []⟩, ⟨(some 105), 107, .iaddr 2 (.t 103) (.t 104), none, []⟩, ⟨(some 106), 108, .load true 2 (.t 105), none, []⟩, ⟨(some 107), 109, .mv (.t 6), none, []⟩, ⟨(some 108), 110, .call 15 [((.t 101), 0), ((.t 102), 0), ((.t 106), 0), ((.t 107), 0)], none, []⟩, ⟨(some 100), 102, .mv (.t 108), none, []⟩, ⟨(some 109), 111, .ext 0 (.t 100), none, []⟩, ⟨(some 110), 112, .ext 1 (.t 100), none, []⟩, ⟨(some 17), 19, .box 4 (.c (.ag [(.i .i64 0), (.i .i64 0), (.f 0), (.f 0)])), none, [0, 1, 2, 3, 4, 5, 6, 7, 8, 9, 10]⟩, ⟨none, 1019012, .store 4 (.t 17) (.t 109), none, [1000000, 10]⟩, ⟨(some 18), 20, .mv (.t 110), none, []⟩])
 (.ops [⟨(some 111), 113, .mv (.t 16), none, []⟩, ⟨(some 112), 114, .mv (.t 111), none, []⟩, ⟨(some 113), 115, .mv (.t 18), (some (112, true)), []⟩, ⟨(some 114), 116, .pick (.t 112) (.t 113) (.c (.b false)), none, []⟩, ⟨(some 16), 18, .mv (.t 114), none, []⟩]))
 .skip))
 (.seq (.ops [⟨(some 19), 21, .mv (.c (.i .i64 0)), none, []⟩])
 (.seq (.seq (.ops [⟨(some 20), 22, .mv (.c (.i .i64 0)), none, []⟩])
 (.block 2 (.loop (.seq (.seq (.ops [⟨(some 115), 117, .mv (.t 20), none, []⟩, ⟨(some 116), 118, .mv (.t 10), none, []⟩, ⟨(some 117), 119, .len false (.t 116), none, []⟩, ⟨(some 118), 120, .bin .lss (.t 115) (.t 117), none, []⟩])
 (.cond (.t 118)
 .skip
 (.exit 2)))
 (.seq (.block 3 (.seq (.draw [⟨(some 121), 123, .mv (.t 10), none, []⟩, ⟨(some 122), 124, .mv (.t 20), none, []⟩, ⟨(some 123), 125, .iaddr 2 (.t 121) (.t 122), none, []⟩, ⟨(some 124), 126, .load true 2 (.t 123), none, []⟩, ⟨(some 125), 127, .mv (.t 11), none, []⟩, ⟨(some 126), 128, .mv (.t 13), none, []⟩, ⟨(some 127), 129, .iaddr 2 (.t 125) (.t 126), none, []⟩, ⟨(some 128), 130, .load true 2 (.t 127), none, []⟩, ⟨(some 129), 131, .eqs false true [.i, .i] (.t 124) (.t 128), none, []⟩])
 (.cond (.t 129)
 (.ops [⟨(some 130), 132, .mv (.t 19), none, []⟩, ⟨(some 131), 133, .bin .add (.t 130) (.c (.i .i64 1)), none, []⟩, ⟨(some 19), 21, .mv (.t 131), none, []⟩])
 .skip)))
 (.ops [⟨(some 119), 121, .mv (.t 20), none, []⟩, ⟨(some 120), 122, .bin .add (.t 119) (.c (.i .i64 1)), none, []⟩, ⟨(some 20), 22, .mv (.t 120), none, []⟩]))))))
 (.seq (.seq (.ops [⟨(some 132), 134, .mv (.t 16), none, []⟩, ⟨(some 133), 135, .mv (.t 132), none, []⟩, ⟨(some 134), 136, .mv (.t 19), (some (133, true)), []⟩, ⟨(some 135), 137, .bin .neq (.t 134) (.c (.i .i64 1)), (some (133, true)), []⟩, ⟨(some 136), 138, .pick (.t 133) (.t 135) (.c (.b false)), none, []⟩, ⟨(some 137), 139, .mv (.t 136), none, []⟩, ⟨(some 138), 140, .mv (.t 16), (some (137, false)), []⟩, ⟨(some 139), 141, .un .not (.t 138), (some (137, false)), []⟩, ⟨(some 140), 142, .mv (.t 139), (some (137, false)), []⟩, ⟨(some 141), 143, .mv (.t 19), (some (140, true)), []⟩, ⟨(some 142), 144, .bin .neq (.t 141) (.c (.i .i64 0)), (some (140, true)), []⟩, ⟨(some 143), 145, .pick (.t 140) (.t 142) (.c (.b false)), (some (137, false)), []⟩, ⟨(some 144), 146, .pick (.t 137) (.c (.b true)) (.t 143), none, []⟩])
 (.cond (.t 144)
 (.seq (.ops [⟨(some 2), 4, .mv (.c (.b false)), none, []⟩])
 .ret)
 .skip))
 (.ops [⟨(some 145), 147, .mv (.t 12), none, []⟩, ⟨(some 146), 148, .mv (.t 19), none, []⟩, ⟨(some 147), 149, .bin .add (.t 145) (.t 146), none, []⟩, ⟨(some 12), 14, .mv (.t 147), none, []⟩]))))))))
 (.ops [⟨(some 82), 84, .mv (.t 13), none, []⟩, ⟨(some 83), 85, .bin .add (.t 82) (.c (.i .i64 1)), none, []⟩, ⟨(some 13), 15, .mv (.t 83), none, []⟩]))))))
 (.seq (.ops [⟨(some 149), 151, .load true 3 (.t 3), none, []⟩, ⟨(some 150), 152, .load true 4 (.t 4), none, []⟩, ⟨(some 151), 153, .load true 2 (.t 5), none, []⟩, ⟨(some 152), 154, .mv (.t 6), none, []⟩, ⟨(some 153), 155, .call 17 [((.t 149), 0), ((.t 150), 0), ((.t 151), 0), ((.t 152), 0)], none, []⟩, ⟨(some 148), 150, .mv (.t 153), none, []⟩, ⟨(some 154), 156, .ext 0 (.t 148), none, []⟩, ⟨(some 155), 157, .ext 1 (.t 148), none, []⟩, ⟨(some 21), 23, .box 4 (.c (.ag [(.i .i64 0), (.i .i64 0), (.f 0), (.f 0)])), none, []⟩, ⟨none, 1030009, .store 4 (.t 21) (.t 154), none, []⟩, ⟨(some 22), 24, .mv (.t 155), none, []⟩])
 (.seq (.ops [⟨(some 157), 159, .load true 3 (.t 3), none, []⟩, ⟨(some 158), 160, .load true 4 (.t 4), none, []⟩, ⟨(some 159), 161, .load true 2 (.t 5), none, []⟩, ⟨(some 160), 162, .mv (.t 6), none, []⟩, ⟨(some 161), 163, .call 15 [((.t 157), 0), ((.t 158), 0), ((.t 159), 0), ((.t 160), 0)], none, []⟩, ⟨(some 156), 158, .mv (.t 161), none, []⟩, ⟨(some 162), 164, .ext 0 (.t 156), none, []⟩, ⟨(some 163), 165, .ext 1 (.t 156), none, []⟩, ⟨(some 23), 25, .box 4 (.c (.ag [(.i .i64 0), (.i .i64 0), (.f 0), (.f 0)])), none, []⟩, ⟨none, 1031009, .store 4 (.t 23) (.t 162), none, []⟩, ⟨(some 24), 26, .mv (.t 163), none, []⟩])
 (.seq (.ops [⟨(some 164), 166, .mv (.t 12), none, []⟩, ⟨(some 165), 167, .mv (.t 10), none, []⟩, ⟨(some 166), 168, .len false (.t 165), none, []⟩, ⟨(some 167), 169, .bin .eql (.t 164) (.t 166), none, []⟩, ⟨(some 168), 170, .mv (.t 167), none, []⟩, ⟨(some 169), 171, .mv (.t 22), (some (168, true)), []⟩, ⟨(some 170), 172, .mv (.t 24), (some (168, true)), []⟩, ⟨(some 171), 173, .eqs false false [.b] (.t 169) (.t 170), (some (168, true)), []⟩, ⟨(some 172), 174, .pick (.t 168) (.t 171) (.c (.b false)), none, []⟩, ⟨(some 2), 4, .mv (.t 172), none, []⟩])
 .ret))))))))))))))
theorem k6 : compCode Try.prog Try.f6.ntmps Try.f6.body.get! = some c6 := by kernel_rfl
theorem r6 : resTmps Try.prog Try.f6.results.toList = some [.tmp 2] := by kernel_rfl
theorem at_in3 {bs : List Int} (i : Nat) (hi : i ≤ 10) (h : bytes bs) (hb : bs.length ≤ 1048576) : 0 ≤ atF bs i ∧ atF bs i ≤ 255 := by
 unfold atF
 cases hx : bs[i]? with
 | none =>
  simp only
  have := tmod_in (a := (i : Int) * 7 + bs.length) (n := 256) (by omega) (by omega)
  omega
 | some x =>
  simp only
  have := h x (List.mem_of_getElem? hx)
  rw [wrap_id (by omega) (by omega)]
  omega
theorem sum_take (p : Int × Int → Nat) : ∀ (l : List (Int × Int)) (j : Nat), ((l.take j).map p).sum ≤ (l.map p).sum
 | [], j => by simp
 | y :: l, 0 => by simp
 | y :: l, j + 1 => by
  simp only [List.take_succ_cons, List.map_cons, List.sum_cons]
  have := sum_take p l j
  omega
theorem sumC_le (M L : List (Int × Int)) (j : Nat) : sumC M (L.take j) ≤ sumC M L := sum_take _ L j
theorem sumR_le : ∀ (ts : List TableP) (n : Nat), (∀ t ∈ ts, t.2.1.length ≤ n) → sumN nR ts ≤ n * ts.length
 | [], n, _ => by simp [sumN]
 | t :: ts, n, h => by
  have h1 := sumR_le ts n fun t ht => h t (by simp [ht])
  have h2 := h t (by simp)
  simp only [sumN, nR, List.length_cons] at h1 ⊢
  rw [Nat.mul_add]
  omega
set_option maxHeartbeats 16000000 in
set_option maxRecDepth 100000 in
theorem w6 (bs : List Int) (hbs : bytes bs) : Contract Try.prog false 6 [.ro] [.sl false 1 (bs.map uT)] [.b true] [] := by
 refine mk_contract [] Try.func6 (c := Try.f6.body.get!) (by kernel_rfl) k6 r6 (of_decide_eq_true rfl) fun _ => ?_
 unfold c6; simp
 by_cases hbig : 1048576 < bs.length
 ·refine callW_ms [.ro] ?_
  simp
  refine callX_of (w24 bs) (by simp) ?_
  simp [hbig]
 refine callW_ms [.ro] ?_
 simp
 refine callX_of (w24 bs) (by simp) ?_
 simp [hbig]
 obtain ⟨⟨⟨c, r, d⟩, w, e, comp⟩, ⟨⟨sc, sr, sd⟩, hwo⟩, hC⟩ := w25 bs (by omega)
 simp only at sc sr sd hwo hC
 unfold regO worldO at hC
 refine callW_ms [.ro] ?_
 simp
 refine callX_of hC (by simp) ?_
 simp
 have hcl := sc.1
 have hrl := sr.1
 have hdl := sd.1
 have hg := hwo.g
 have hf := hwo.f
 have hn := hwo.n
 have hok : okW w := ⟨by omega, by omega, ⟨by omega, fun t ht => by have := hwo.c t ht; exact ⟨by omega, by omega, by omega, fun v hv => by have := this.2.2.2 v hv; omega⟩⟩, by have := hwo.r.1; omega⟩
 have hfw : fW w := ⟨fun t ht v hv => hwo.v t ht v hv, hwo.r.2⟩
 have hsum : sumN nR w.2.2.1 ≤ 2^36 := by
  have := sumR_le w.2.2.1 500 fun t ht => (hwo.c t ht).2.1
  omega
 have hsm : ∀ l ∈ [c, r, d], ∀ x ∈ l, x.1.size ≤ 2^40 := by
  intro l hl x hx
  simp only [List.mem_cons, List.not_mem_nil, or_false] at hl
  rcases hl with rfl | rfl | rfl
  ·have := sc.2 x hx; omega
  ·have := sr.2 x hx; omega
  ·have := sd.2 x hx; omega
 have hW := w9 c r d w hok (by omega) (by omega) (by omega) hfw.1 hfw.2
 unfold regR worldR at hW
 by_cases hw : WorldOkP c r d w
 rotate_left
 ·refine callW_ms [.ro, .ro] ?_
  simp
  refine callX_of (hW.f hw) (by simp) ?_
  simp
 refine callW_ms [.ro, .ro] ?_
 simp
 refine callX_of (hW.t hw) (by simp) ?_
 simp
 have hLc := w28 w.1 w.2.1 (by omega) (by omega)
 unfold entsR at hLc
 have hLe : entListF w.1 w.2.1 = liveG w.1 w.2.1 w.1.length := by unfold entListF; rw [if_pos hw.1.2.1]
 rw [hLe] at hLc
 have hLn := (live_nodup w.1 w.2.1 w.1.length).1
 have hLl := liveG_len w.1 w.2.1 w.1.length
 clear hLe
 obtain ⟨L, hLe⟩ : ∃ L, L = liveG w.1 w.2.1 w.1.length := ⟨_, rfl⟩
 rw [← hLe] at hLc hLn hLl
 have ht40 := hw.1.2.2.1
 intro hc2
 refine callW_ms [.ro, .ro] ?_
 simp
 refine callX_of (w26 bs 1 (by omega) (by omega)) (by simp) ?_
 simp
 have hat := at_in3 1 (by omega) hbs (by omega)
 have hkm := tmod_in (a := atF bs 1) (n := (c.length : Int)) hat.1 (by omega)
 refine ⟨by first | omega | (rintro rfl; simp at hc2), ?_⟩
 obtain ⟨k, hk⟩ : ∃ k, k = (atF bs 1).tmod (c.length : Int) := ⟨_, rfl⟩
 rw [← hk] at hkm ⊢
 clear hk hat
 by_cases h1 : 0 ≤ comp
 rotate_left
 ·simp [h1]
  have hMt := w27 w [] [k] hok (by simp) (by simp) hsum
  have hMF : matchF w.2.2.1 [] [k] = matL [] [k] w.2.2.1 := by unfold matchF; rw [if_neg (by simp; omega)]
  rw [hMF] at hMt
  obtain ⟨M, hM⟩ : ∃ M, M = matL [] [k] w.2.2.1 := ⟨_, rfl⟩
  have hML : M.length ≤ 2^36 := by rw [hM]; exact Nat.le_trans (matL_len _ _ _) hsum
  have hin : ∀ x ∈ M, x ∈ L := fun x hx => by rw [hM] at hx; rw [hLe]; exact (live_all x).2 (hw.2.2.2.2.1.1 x (matL_sub hx))
  have htot := sumC_all hLn hin
  rw [← hM] at hMt
  unfold worldR at hMt
  refine callW_ms [.ro, .ro, .ro] ?_
  simp
  refine callX_of hMt (by simp) ?_
  simp
  refine callW_ms [.ro] ?_
  simp
  refine callX_of hLc (by simp) ?_
  simp
  refine twp_for L.length (fun j s => s.t 3 = .pt [(5, 0)] 0 0 ∧ s.t 4 = .pt [(6, 0)] 0 0 ∧ s.t 5 = .pt [(7, 0)] 0 0 ∧ s.t 6 = .i .i64 comp ∧ s.t 7 = .i .i64 k ∧ s.t 8 = .rf [(52, 0)] 0 0 ∧ s.t 10 = .rf [(76, 0)] 0 M.length ∧ s.t 11 = .rf [(79, 0)] 0 L.length ∧ s.t 12 = .i .i64 (sumC M (L.take j) : Nat) ∧ s.t 13 = .i .i64 j ∧ s.H = lk [(1, []), (5, [.po true [.sl true 2 (c.map dT), .sl true 2 (r.map dT), .sl true 2 (d.map dT)]]), (6, [.po true [.sl true 1 (w.1.map iT), .sl true 1 (w.2.1.map iT), .sl true 3 (w.2.2.1.map tbO), .sl true 4 (w.2.2.2.map vT)]]), (7, [.po true [.i .i64 e.1, .i .i64 e.2]]), (52, [.sl true 1 (([] : List Int).map iT)]), (54, [.sl true 1 (([k] : List Int).map iT)]), (76, [.sl true 2 (M.map eT)]), (79, [.sl true 2 (L.map eT)])]) [16, 19, 31] (by simp) ?_ ?_
  ·simp [sumC]
  ·rintro j s hj ⟨q3, q4, q5, q6, q7, q8, q10, q11, q12, q13, qH⟩
   rw [nf_of qH]
   have hw0 : IntKind.i64.wrap ((j : Int) + 1) = j + 1 := wrap_id (by omega) (by omega)
   have hsj : sumC M (L.take j) ≤ M.length := by rw [← htot]; exact sumC_le M L j
   cases hb9 : decide (j < L.length)
   ·have hge := of_decide_eq_false hb9
    obtain rfl : j = L.length := by omega
    rw [List.take_of_length_le (Nat.le_refl _), htot] at q12
    have hGi := w17 c r d w e comp hok (by omega) (by omega) (by omega) hsm
    have hGs := w15 c r d w e comp hok (by omega) (by omega) (by omega) hfw
    unfold regR worldR valV at hGi hGs
    generalize getP c r d w e comp = p at hGi hGs
    obtain ⟨v, b⟩ := p
    simp only at hGi hGs
    simp [q3, q4, q5, q6, q7, q8, q10, q11, q12, q13, hb9]
    refine callW_ms [.ro, .ro, .ro, .ro] ?_
    simp
    refine callX_of hGi (by simp) ?_
    simp [q3, q4, q5, q6, q7, q8, q10, q11, q12, q13]
    refine callW_ms [.ro, .ro, .ro, .ro] ?_
    simp
    refine callX_of hGs (by simp) ?_
    simp [q3, q4, q5, q6, q7, q8, q10, q11, q12, q13]
   ·have hlt := of_decide_eq_true hb9
    have hw := hw
    obtain ⟨x, hx⟩ := get_some hlt
    have hlx : liveP w.1 w.2.1 x.1 x.2 := by have := List.mem_of_getElem? hx; rw [hLe] at this; exact (live_all x).1 this
    have hG1 := w15 c r d w x k hok (by omega) (by omega) (by omega) hfw
    unfold regR worldR valV at hG1
    generalize hg1 : getP c r d w x k = p1 at hG1
    obtain ⟨v1, b1⟩ := p1
    simp only at hG1
    simp [q3, q4, q5, q6, q7, q8, q10, q11, q12, q13, hb9, hx]
    refine ⟨by omega, ?_⟩
    refine callW_ms [.ro, .ro, .ro, .ro] ?_
    simp
    refine callX_of hG1 (by simp) ?_
    cases b1 with
    | true =>
     simp [q3, q4, q5, q6, q7, q8, q10, q11, q12, q13, hx]
     have hT : M.count x = 0 := by
      have := times_of (k := k) (comp := comp) (wi := []) hw hlx (.inl rfl)
      rw [← hM] at this
      rw [this, hg1]; rfl
     refine twp_for M.length (fun m s => s.t 3 = .pt [(5, 0)] 0 0 ∧ s.t 4 = .pt [(6, 0)] 0 0 ∧ s.t 5 = .pt [(7, 0)] 0 0 ∧ s.t 6 = .i .i64 comp ∧ s.t 7 = .i .i64 k ∧ s.t 8 = .rf [(52, 0)] 0 0 ∧ s.t 10 = .rf [(76, 0)] 0 M.length ∧ s.t 11 = .rf [(79, 0)] 0 L.length ∧ s.t 12 = .i .i64 (sumC M (L.take j) : Nat) ∧ s.t 13 = .i .i64 j ∧ s.t 16 = .b false ∧ s.t 19 = .i .i64 ((M.take m).count x : Nat) ∧ s.t 20 = .i .i64 m ∧ s.H = lk [(1, []), (5, [.po true [.sl true 2 (c.map dT), .sl true 2 (r.map dT), .sl true 2 (d.map dT)]]), (6, [.po true [.sl true 1 (w.1.map iT), .sl true 1 (w.2.1.map iT), .sl true 3 (w.2.2.1.map tbO), .sl true 4 (w.2.2.2.map vT)]]), (7, [.po true [.i .i64 e.1, .i .i64 e.2]]), (52, [.sl true 1 (([] : List Int).map iT)]), (54, [.sl true 1 (([k] : List Int).map iT)]), (76, [.sl true 2 (M.map eT)]), (79, [.sl true 2 (L.map eT)])]) [16, 19] (by simp) ?_ ?_
     ·simp [q3, q4, q5, q6, q7, q8, q10, q11, q12, q13]
     ·rintro m s hm ⟨q3, q4, q5, q6, q7, q8, q10, q11, q12, q13, q16, q19, q20, qH⟩
      rw [nf_of qH]
      have hwm : IntKind.i64.wrap ((m : Int) + 1) = m + 1 := wrap_id (by omega) (by omega)
      cases hb8 : decide (m < M.length)
      ·have hge := of_decide_eq_false hb8
       obtain rfl : m = M.length := by omega
       rw [List.take_of_length_le (Nat.le_refl _), hT] at q19
       have hw3 : IntKind.i64.wrap ((sumC M (L.take j) : Int) + 0) = (sumC M (L.take j) : Int) + 0 := wrap_id (by omega) (by omega)
       have hw5 : IntKind.i64.wrap (sumC M (L.take j) : Int) = (sumC M (L.take j) : Int) := wrap_id (by omega) (by omega)
       have hs1 := sumC_snoc M hx
       rw [hT] at hs1
       simp [q3, q4, q5, q6, q7, q8, q10, q11, q12, q13, q16, q19, q20, hb8, hw3, hw5, hw0, forK]
       refine ⟨hlt, ?_⟩
       simp [hs1]
      ·have hlm := of_decide_eq_true hb8
       obtain ⟨y, hy⟩ := get_some hlm
       have hc1 : (M.take (m + 1)).count x = (M.take m).count x + if y == x then 1 else 0 := by
        rw [take_snoc hy, List.count_append]; simp [List.count_cons]
       have hcl : (M.take m).count x ≤ M.length := Nat.le_trans List.count_le_length (by simp; omega)
       have hw4 : IntKind.i64.wrap (((M.take m).count x : Int) + 1) = ((M.take m).count x : Int) + 1 := wrap_id (by omega) (by omega)
       cases hb7 : (decide (y.1 = x.1) && decide (y.2 = x.2))
       ·have hbe : (y == x) = false := by
         rw [beq_eq_false_iff_ne]; rintro rfl; simp at hb7
        rw [hbe] at hc1
        simp [q3, q4, q5, q6, q7, q8, q10, q11, q12, q13, q16, q19, q20, hb8, hy, hx, hwm, hw4, hb7, forK]
        refine ⟨hlm, hlt, hlm, ?_⟩
        simp only [Bool.false_eq_true, if_false, if_true] at hc1
        omega
       ·have hbe : (y == x) = true := by
         simp at hb7
         rw [beq_iff_eq]; exact Prod.ext hb7.1 hb7.2
        rw [hbe] at hc1
        simp [q3, q4, q5, q6, q7, q8, q10, q11, q12, q13, q16, q19, q20, hb8, hy, hx, hwm, hw4, hb7, forK]
        refine ⟨hlm, hlt, hlm, ?_⟩
        simp only [Bool.false_eq_true, if_false, if_true] at hc1
        omega
    | false =>
     simp [q3, q4, q5, q6, q7, q8, q10, q11, q12, q13, hx]
     have hT : M.count x = 1 := by
      have := times_of (k := k) (comp := comp) (wi := []) hw hlx (.inl rfl)
      rw [← hM] at this
      rw [this, hg1]; rfl
     refine twp_for M.length (fun m s => s.t 3 = .pt [(5, 0)] 0 0 ∧ s.t 4 = .pt [(6, 0)] 0 0 ∧ s.t 5 = .pt [(7, 0)] 0 0 ∧ s.t 6 = .i .i64 comp ∧ s.t 7 = .i .i64 k ∧ s.t 8 = .rf [(52, 0)] 0 0 ∧ s.t 10 = .rf [(76, 0)] 0 M.length ∧ s.t 11 = .rf [(79, 0)] 0 L.length ∧ s.t 12 = .i .i64 (sumC M (L.take j) : Nat) ∧ s.t 13 = .i .i64 j ∧ s.t 16 = .b true ∧ s.t 19 = .i .i64 ((M.take m).count x : Nat) ∧ s.t 20 = .i .i64 m ∧ s.H = lk [(1, []), (5, [.po true [.sl true 2 (c.map dT), .sl true 2 (r.map dT), .sl true 2 (d.map dT)]]), (6, [.po true [.sl true 1 (w.1.map iT), .sl true 1 (w.2.1.map iT), .sl true 3 (w.2.2.1.map tbO), .sl true 4 (w.2.2.2.map vT)]]), (7, [.po true [.i .i64 e.1, .i .i64 e.2]]), (52, [.sl true 1 (([] : List Int).map iT)]), (54, [.sl true 1 (([k] : List Int).map iT)]), (76, [.sl true 2 (M.map eT)]), (79, [.sl true 2 (L.map eT)])]) [16, 19] (by simp) ?_ ?_
     ·simp [q3, q4, q5, q6, q7, q8, q10, q11, q12, q13]
     ·rintro m s hm ⟨q3, q4, q5, q6, q7, q8, q10, q11, q12, q13, q16, q19, q20, qH⟩
      rw [nf_of qH]
      have hwm : IntKind.i64.wrap ((m : Int) + 1) = m + 1 := wrap_id (by omega) (by omega)
      cases hb8 : decide (m < M.length)
      ·have hge := of_decide_eq_false hb8
       obtain rfl : m = M.length := by omega
       rw [List.take_of_length_le (Nat.le_refl _), hT] at q19
       have hw3 : IntKind.i64.wrap ((sumC M (L.take j) : Int) + 1) = (sumC M (L.take j) : Int) + 1 := wrap_id (by omega) (by omega)
       have hw5 : IntKind.i64.wrap (sumC M (L.take j) : Int) = (sumC M (L.take j) : Int) := wrap_id (by omega) (by omega)
       have hs1 := sumC_snoc M hx
       rw [hT] at hs1
       simp [q3, q4, q5, q6, q7, q8, q10, q11, q12, q13, q16, q19, q20, hb8, hw3, hw5, hw0, forK]
       refine ⟨hlt, ?_⟩
       simp [hs1]
      ·have hlm := of_decide_eq_true hb8
       obtain ⟨y, hy⟩ := get_some hlm
       have hc1 : (M.take (m + 1)).count x = (M.take m).count x + if y == x then 1 else 0 := by
        rw [take_snoc hy, List.count_append]; simp [List.count_cons]
       have hcl : (M.take m).count x ≤ M.length := Nat.le_trans List.count_le_length (by simp; omega)
       have hw4 : IntKind.i64.wrap (((M.take m).count x : Int) + 1) = ((M.take m).count x : Int) + 1 := wrap_id (by omega) (by omega)
       cases hb7 : (decide (y.1 = x.1) && decide (y.2 = x.2))
       ·have hbe : (y == x) = false := by
         rw [beq_eq_false_iff_ne]; rintro rfl; simp at hb7
        rw [hbe] at hc1
        simp [q3, q4, q5, q6, q7, q8, q10, q11, q12, q13, q16, q19, q20, hb8, hy, hx, hwm, hw4, hb7, forK]
        refine ⟨hlm, hlt, hlm, ?_⟩
        simp only [Bool.false_eq_true, if_false, if_true] at hc1
        omega
       ·have hbe : (y == x) = true := by
         simp at hb7
         rw [beq_iff_eq]; exact Prod.ext hb7.1 hb7.2
        rw [hbe] at hc1
        simp [q3, q4, q5, q6, q7, q8, q10, q11, q12, q13, q16, q19, q20, hb8, hy, hx, hwm, hw4, hb7, forK]
        refine ⟨hlm, hlt, hlm, ?_⟩
        simp only [Bool.false_eq_true, if_false, if_true] at hc1
        omega
 by_cases h2 : comp < (c.length : Int)
 rotate_left
 ·simp [h1, h2]
  have hMt := w27 w [] [k] hok (by simp) (by simp) hsum
  have hMF : matchF w.2.2.1 [] [k] = matL [] [k] w.2.2.1 := by unfold matchF; rw [if_neg (by simp; omega)]
  rw [hMF] at hMt
  obtain ⟨M, hM⟩ : ∃ M, M = matL [] [k] w.2.2.1 := ⟨_, rfl⟩
  have hML : M.length ≤ 2^36 := by rw [hM]; exact Nat.le_trans (matL_len _ _ _) hsum
  have hin : ∀ x ∈ M, x ∈ L := fun x hx => by rw [hM] at hx; rw [hLe]; exact (live_all x).2 (hw.2.2.2.2.1.1 x (matL_sub hx))
  have htot := sumC_all hLn hin
  rw [← hM] at hMt
  unfold worldR at hMt
  refine callW_ms [.ro, .ro, .ro] ?_
  simp
  refine callX_of hMt (by simp) ?_
  simp
  refine callW_ms [.ro] ?_
  simp
  refine callX_of hLc (by simp) ?_
  simp
  refine twp_for L.length (fun j s => s.t 3 = .pt [(5, 0)] 0 0 ∧ s.t 4 = .pt [(6, 0)] 0 0 ∧ s.t 5 = .pt [(7, 0)] 0 0 ∧ s.t 6 = .i .i64 comp ∧ s.t 7 = .i .i64 k ∧ s.t 8 = .rf [(52, 0)] 0 0 ∧ s.t 10 = .rf [(76, 0)] 0 M.length ∧ s.t 11 = .rf [(79, 0)] 0 L.length ∧ s.t 12 = .i .i64 (sumC M (L.take j) : Nat) ∧ s.t 13 = .i .i64 j ∧ s.H = lk [(1, []), (5, [.po true [.sl true 2 (c.map dT), .sl true 2 (r.map dT), .sl true 2 (d.map dT)]]), (6, [.po true [.sl true 1 (w.1.map iT), .sl true 1 (w.2.1.map iT), .sl true 3 (w.2.2.1.map tbO), .sl true 4 (w.2.2.2.map vT)]]), (7, [.po true [.i .i64 e.1, .i .i64 e.2]]), (52, [.sl true 1 (([] : List Int).map iT)]), (54, [.sl true 1 (([k] : List Int).map iT)]), (76, [.sl true 2 (M.map eT)]), (79, [.sl true 2 (L.map eT)])]) [16, 19, 31] (by simp) ?_ ?_
  ·simp [sumC]
  ·rintro j s hj ⟨q3, q4, q5, q6, q7, q8, q10, q11, q12, q13, qH⟩
   rw [nf_of qH]
   have hw0 : IntKind.i64.wrap ((j : Int) + 1) = j + 1 := wrap_id (by omega) (by omega)
   have hsj : sumC M (L.take j) ≤ M.length := by rw [← htot]; exact sumC_le M L j
   cases hb9 : decide (j < L.length)
   ·have hge := of_decide_eq_false hb9
    obtain rfl : j = L.length := by omega
    rw [List.take_of_length_le (Nat.le_refl _), htot] at q12
    have hGi := w17 c r d w e comp hok (by omega) (by omega) (by omega) hsm
    have hGs := w15 c r d w e comp hok (by omega) (by omega) (by omega) hfw
    unfold regR worldR valV at hGi hGs
    generalize getP c r d w e comp = p at hGi hGs
    obtain ⟨v, b⟩ := p
    simp only at hGi hGs
    simp [q3, q4, q5, q6, q7, q8, q10, q11, q12, q13, hb9]
    refine callW_ms [.ro, .ro, .ro, .ro] ?_
    simp
    refine callX_of hGi (by simp) ?_
    simp [q3, q4, q5, q6, q7, q8, q10, q11, q12, q13]
    refine callW_ms [.ro, .ro, .ro, .ro] ?_
    simp
    refine callX_of hGs (by simp) ?_
    simp [q3, q4, q5, q6, q7, q8, q10, q11, q12, q13]
   ·have hlt := of_decide_eq_true hb9
    have hw := hw
    obtain ⟨x, hx⟩ := get_some hlt
    have hlx : liveP w.1 w.2.1 x.1 x.2 := by have := List.mem_of_getElem? hx; rw [hLe] at this; exact (live_all x).1 this
    have hG1 := w15 c r d w x k hok (by omega) (by omega) (by omega) hfw
    unfold regR worldR valV at hG1
    generalize hg1 : getP c r d w x k = p1 at hG1
    obtain ⟨v1, b1⟩ := p1
    simp only at hG1
    simp [q3, q4, q5, q6, q7, q8, q10, q11, q12, q13, hb9, hx]
    refine ⟨by omega, ?_⟩
    refine callW_ms [.ro, .ro, .ro, .ro] ?_
    simp
    refine callX_of hG1 (by simp) ?_
    cases b1 with
    | true =>
     simp [q3, q4, q5, q6, q7, q8, q10, q11, q12, q13, hx]
     have hT : M.count x = 0 := by
      have := times_of (k := k) (comp := comp) (wi := []) hw hlx (.inl rfl)
      rw [← hM] at this
      rw [this, hg1]; rfl
     refine twp_for M.length (fun m s => s.t 3 = .pt [(5, 0)] 0 0 ∧ s.t 4 = .pt [(6, 0)] 0 0 ∧ s.t 5 = .pt [(7, 0)] 0 0 ∧ s.t 6 = .i .i64 comp ∧ s.t 7 = .i .i64 k ∧ s.t 8 = .rf [(52, 0)] 0 0 ∧ s.t 10 = .rf [(76, 0)] 0 M.length ∧ s.t 11 = .rf [(79, 0)] 0 L.length ∧ s.t 12 = .i .i64 (sumC M (L.take j) : Nat) ∧ s.t 13 = .i .i64 j ∧ s.t 16 = .b false ∧ s.t 19 = .i .i64 ((M.take m).count x : Nat) ∧ s.t 20 = .i .i64 m ∧ s.H = lk [(1, []), (5, [.po true [.sl true 2 (c.map dT), .sl true 2 (r.map dT), .sl true 2 (d.map dT)]]), (6, [.po true [.sl true 1 (w.1.map iT), .sl true 1 (w.2.1.map iT), .sl true 3 (w.2.2.1.map tbO), .sl true 4 (w.2.2.2.map vT)]]), (7, [.po true [.i .i64 e.1, .i .i64 e.2]]), (52, [.sl true 1 (([] : List Int).map iT)]), (54, [.sl true 1 (([k] : List Int).map iT)]), (76, [.sl true 2 (M.map eT)]), (79, [.sl true 2 (L.map eT)])]) [16, 19] (by simp) ?_ ?_
     ·simp [q3, q4, q5, q6, q7, q8, q10, q11, q12, q13]
     ·rintro m s hm ⟨q3, q4, q5, q6, q7, q8, q10, q11, q12, q13, q16, q19, q20, qH⟩
      rw [nf_of qH]
      have hwm : IntKind.i64.wrap ((m : Int) + 1) = m + 1 := wrap_id (by omega) (by omega)
      cases hb8 : decide (m < M.length)
      ·have hge := of_decide_eq_false hb8
       obtain rfl : m = M.length := by omega
       rw [List.take_of_length_le (Nat.le_refl _), hT] at q19
       have hw3 : IntKind.i64.wrap ((sumC M (L.take j) : Int) + 0) = (sumC M (L.take j) : Int) + 0 := wrap_id (by omega) (by omega)
       have hw5 : IntKind.i64.wrap (sumC M (L.take j) : Int) = (sumC M (L.take j) : Int) := wrap_id (by omega) (by omega)
       have hs1 := sumC_snoc M hx
       rw [hT] at hs1
       simp [q3, q4, q5, q6, q7, q8, q10, q11, q12, q13, q16, q19, q20, hb8, hw3, hw5, hw0, forK]
       refine ⟨hlt, ?_⟩
       simp [hs1]
      ·have hlm := of_decide_eq_true hb8
       obtain ⟨y, hy⟩ := get_some hlm
       have hc1 : (M.take (m + 1)).count x = (M.take m).count x + if y == x then 1 else 0 := by
        rw [take_snoc hy, List.count_append]; simp [List.count_cons]
       have hcl : (M.take m).count x ≤ M.length := Nat.le_trans List.count_le_length (by simp; omega)
       have hw4 : IntKind.i64.wrap (((M.take m).count x : Int) + 1) = ((M.take m).count x : Int) + 1 := wrap_id (by omega) (by omega)
       cases hb7 : (decide (y.1 = x.1) && decide (y.2 = x.2))
       ·have hbe : (y == x) = false := by
         rw [beq_eq_false_iff_ne]; rintro rfl; simp at hb7
        rw [hbe] at hc1
        simp [q3, q4, q5, q6, q7, q8, q10, q11, q12, q13, q16, q19, q20, hb8, hy, hx, hwm, hw4, hb7, forK]
        refine ⟨hlm, hlt, hlm, ?_⟩
        simp only [Bool.false_eq_true, if_false, if_true] at hc1
        omega
       ·have hbe : (y == x) = true := by
         simp at hb7
         rw [beq_iff_eq]; exact Prod.ext hb7.1 hb7.2
        rw [hbe] at hc1
        simp [q3, q4, q5, q6, q7, q8, q10, q11, q12, q13, q16, q19, q20, hb8, hy, hx, hwm, hw4, hb7, forK]
        refine ⟨hlm, hlt, hlm, ?_⟩
        simp only [Bool.false_eq_true, if_false, if_true] at hc1
        omega
    | false =>
     simp [q3, q4, q5, q6, q7, q8, q10, q11, q12, q13, hx]
     have hT : M.count x = 1 := by
      have := times_of (k := k) (comp := comp) (wi := []) hw hlx (.inl rfl)
      rw [← hM] at this
      rw [this, hg1]; rfl
     refine twp_for M.length (fun m s => s.t 3 = .pt [(5, 0)] 0 0 ∧ s.t 4 = .pt [(6, 0)] 0 0 ∧ s.t 5 = .pt [(7, 0)] 0 0 ∧ s.t 6 = .i .i64 comp ∧ s.t 7 = .i .i64 k ∧ s.t 8 = .rf [(52, 0)] 0 0 ∧ s.t 10 = .rf [(76, 0)] 0 M.length ∧ s.t 11 = .rf [(79, 0)] 0 L.length ∧ s.t 12 = .i .i64 (sumC M (L.take j) : Nat) ∧ s.t 13 = .i .i64 j ∧ s.t 16 = .b true ∧ s.t 19 = .i .i64 ((M.take m).count x : Nat) ∧ s.t 20 = .i .i64 m ∧ s.H = lk [(1, []), (5, [.po true [.sl true 2 (c.map dT), .sl true 2 (r.map dT), .sl true 2 (d.map dT)]]), (6, [.po true [.sl true 1 (w.1.map iT), .sl true 1 (w.2.1.map iT), .sl true 3 (w.2.2.1.map tbO), .sl true 4 (w.2.2.2.map vT)]]), (7, [.po true [.i .i64 e.1, .i .i64 e.2]]), (52, [.sl true 1 (([] : List Int).map iT)]), (54, [.sl true 1 (([k] : List Int).map iT)]), (76, [.sl true 2 (M.map eT)]), (79, [.sl true 2 (L.map eT)])]) [16, 19] (by simp) ?_ ?_
     ·simp [q3, q4, q5, q6, q7, q8, q10, q11, q12, q13]
     ·rintro m s hm ⟨q3, q4, q5, q6, q7, q8, q10, q11, q12, q13, q16, q19, q20, qH⟩
      rw [nf_of qH]
      have hwm : IntKind.i64.wrap ((m : Int) + 1) = m + 1 := wrap_id (by omega) (by omega)
      cases hb8 : decide (m < M.length)
      ·have hge := of_decide_eq_false hb8
       obtain rfl : m = M.length := by omega
       rw [List.take_of_length_le (Nat.le_refl _), hT] at q19
       have hw3 : IntKind.i64.wrap ((sumC M (L.take j) : Int) + 1) = (sumC M (L.take j) : Int) + 1 := wrap_id (by omega) (by omega)
       have hw5 : IntKind.i64.wrap (sumC M (L.take j) : Int) = (sumC M (L.take j) : Int) := wrap_id (by omega) (by omega)
       have hs1 := sumC_snoc M hx
       rw [hT] at hs1
       simp [q3, q4, q5, q6, q7, q8, q10, q11, q12, q13, q16, q19, q20, hb8, hw3, hw5, hw0, forK]
       refine ⟨hlt, ?_⟩
       simp [hs1]
      ·have hlm := of_decide_eq_true hb8
       obtain ⟨y, hy⟩ := get_some hlm
       have hc1 : (M.take (m + 1)).count x = (M.take m).count x + if y == x then 1 else 0 := by
        rw [take_snoc hy, List.count_append]; simp [List.count_cons]
       have hcl : (M.take m).count x ≤ M.length := Nat.le_trans List.count_le_length (by simp; omega)
       have hw4 : IntKind.i64.wrap (((M.take m).count x : Int) + 1) = ((M.take m).count x : Int) + 1 := wrap_id (by omega) (by omega)
       cases hb7 : (decide (y.1 = x.1) && decide (y.2 = x.2))
       ·have hbe : (y == x) = false := by
         rw [beq_eq_false_iff_ne]; rintro rfl; simp at hb7
        rw [hbe] at hc1
        simp [q3, q4, q5, q6, q7, q8, q10, q11, q12, q13, q16, q19, q20, hb8, hy, hx, hwm, hw4, hb7, forK]
        refine ⟨hlm, hlt, hlm, ?_⟩
        simp only [Bool.false_eq_true, if_false, if_true] at hc1
        omega
       ·have hbe : (y == x) = true := by
         simp at hb7
         rw [beq_iff_eq]; exact Prod.ext hb7.1 hb7.2
        rw [hbe] at hc1
        simp [q3, q4, q5, q6, q7, q8, q10, q11, q12, q13, q16, q19, q20, hb8, hy, hx, hwm, hw4, hb7, forK]
        refine ⟨hlm, hlt, hlm, ?_⟩
        simp only [Bool.false_eq_true, if_false, if_true] at hc1
        omega
 by_cases h3 : comp = k
 ·have h3' := h3.symm
  subst h3'
  simp [h1, h2]
  have hMt := w27 w [] [k] hok (by simp) (by simp) hsum
  have hMF : matchF w.2.2.1 [] [k] = matL [] [k] w.2.2.1 := by unfold matchF; rw [if_neg (by simp; omega)]
  rw [hMF] at hMt
  obtain ⟨M, hM⟩ : ∃ M, M = matL [] [k] w.2.2.1 := ⟨_, rfl⟩
  have hML : M.length ≤ 2^36 := by rw [hM]; exact Nat.le_trans (matL_len _ _ _) hsum
  have hin : ∀ x ∈ M, x ∈ L := fun x hx => by rw [hM] at hx; rw [hLe]; exact (live_all x).2 (hw.2.2.2.2.1.1 x (matL_sub hx))
  have htot := sumC_all hLn hin
  rw [← hM] at hMt
  unfold worldR at hMt
  refine callW_ms [.ro, .ro, .ro] ?_
  simp
  refine callX_of hMt (by simp) ?_
  simp
  refine callW_ms [.ro] ?_
  simp
  refine callX_of hLc (by simp) ?_
  simp
  refine twp_for L.length (fun j s => s.t 3 = .pt [(5, 0)] 0 0 ∧ s.t 4 = .pt [(6, 0)] 0 0 ∧ s.t 5 = .pt [(7, 0)] 0 0 ∧ s.t 6 = .i .i64 k ∧ s.t 7 = .i .i64 k ∧ s.t 8 = .rf [(52, 0)] 0 0 ∧ s.t 10 = .rf [(76, 0)] 0 M.length ∧ s.t 11 = .rf [(79, 0)] 0 L.length ∧ s.t 12 = .i .i64 (sumC M (L.take j) : Nat) ∧ s.t 13 = .i .i64 j ∧ s.H = lk [(1, []), (5, [.po true [.sl true 2 (c.map dT), .sl true 2 (r.map dT), .sl true 2 (d.map dT)]]), (6, [.po true [.sl true 1 (w.1.map iT), .sl true 1 (w.2.1.map iT), .sl true 3 (w.2.2.1.map tbO), .sl true 4 (w.2.2.2.map vT)]]), (7, [.po true [.i .i64 e.1, .i .i64 e.2]]), (52, [.sl true 1 (([] : List Int).map iT)]), (54, [.sl true 1 (([k] : List Int).map iT)]), (76, [.sl true 2 (M.map eT)]), (79, [.sl true 2 (L.map eT)])]) [16, 19, 31] (by simp) ?_ ?_
  ·simp [sumC]
  ·rintro j s hj ⟨q3, q4, q5, q6, q7, q8, q10, q11, q12, q13, qH⟩
   rw [nf_of qH]
   have hw0 : IntKind.i64.wrap ((j : Int) + 1) = j + 1 := wrap_id (by omega) (by omega)
   have hsj : sumC M (L.take j) ≤ M.length := by rw [← htot]; exact sumC_le M L j
   cases hb9 : decide (j < L.length)
   ·have hge := of_decide_eq_false hb9
    obtain rfl : j = L.length := by omega
    rw [List.take_of_length_le (Nat.le_refl _), htot] at q12
    have hGi := w17 c r d w e k hok (by omega) (by omega) (by omega) hsm
    have hGs := w15 c r d w e k hok (by omega) (by omega) (by omega) hfw
    unfold regR worldR valV at hGi hGs
    generalize getP c r d w e k = p at hGi hGs
    obtain ⟨v, b⟩ := p
    simp only at hGi hGs
    simp [q3, q4, q5, q6, q7, q8, q10, q11, q12, q13, hb9]
    refine callW_ms [.ro, .ro, .ro, .ro] ?_
    simp
    refine callX_of hGi (by simp) ?_
    simp [q3, q4, q5, q6, q7, q8, q10, q11, q12, q13]
    refine callW_ms [.ro, .ro, .ro, .ro] ?_
    simp
    refine callX_of hGs (by simp) ?_
    simp [q3, q4, q5, q6, q7, q8, q10, q11, q12, q13]
   ·have hlt := of_decide_eq_true hb9
    have hw := hw
    obtain ⟨x, hx⟩ := get_some hlt
    have hlx : liveP w.1 w.2.1 x.1 x.2 := by have := List.mem_of_getElem? hx; rw [hLe] at this; exact (live_all x).1 this
    have hG1 := w15 c r d w x k hok (by omega) (by omega) (by omega) hfw
    unfold regR worldR valV at hG1
    generalize hg1 : getP c r d w x k = p1 at hG1
    obtain ⟨v1, b1⟩ := p1
    simp only at hG1
    simp [q3, q4, q5, q6, q7, q8, q10, q11, q12, q13, hb9, hx]
    refine ⟨by omega, ?_⟩
    refine callW_ms [.ro, .ro, .ro, .ro] ?_
    simp
    refine callX_of hG1 (by simp) ?_
    cases b1 with
    | true =>
     simp [q3, q4, q5, q6, q7, q8, q10, q11, q12, q13, hx]
     have hT : M.count x = 0 := by
      have := times_of (k := k) (comp := k) (wi := []) hw hlx (.inl rfl)
      rw [← hM] at this
      rw [this, hg1]; rfl
     refine twp_for M.length (fun m s => s.t 3 = .pt [(5, 0)] 0 0 ∧ s.t 4 = .pt [(6, 0)] 0 0 ∧ s.t 5 = .pt [(7, 0)] 0 0 ∧ s.t 6 = .i .i64 k ∧ s.t 7 = .i .i64 k ∧ s.t 8 = .rf [(52, 0)] 0 0 ∧ s.t 10 = .rf [(76, 0)] 0 M.length ∧ s.t 11 = .rf [(79, 0)] 0 L.length ∧ s.t 12 = .i .i64 (sumC M (L.take j) : Nat) ∧ s.t 13 = .i .i64 j ∧ s.t 16 = .b false ∧ s.t 19 = .i .i64 ((M.take m).count x : Nat) ∧ s.t 20 = .i .i64 m ∧ s.H = lk [(1, []), (5, [.po true [.sl true 2 (c.map dT), .sl true 2 (r.map dT), .sl true 2 (d.map dT)]]), (6, [.po true [.sl true 1 (w.1.map iT), .sl true 1 (w.2.1.map iT), .sl true 3 (w.2.2.1.map tbO), .sl true 4 (w.2.2.2.map vT)]]), (7, [.po true [.i .i64 e.1, .i .i64 e.2]]), (52, [.sl true 1 (([] : List Int).map iT)]), (54, [.sl true 1 (([k] : List Int).map iT)]), (76, [.sl true 2 (M.map eT)]), (79, [.sl true 2 (L.map eT)])]) [16, 19] (by simp) ?_ ?_
     ·simp [q3, q4, q5, q6, q7, q8, q10, q11, q12, q13]
     ·rintro m s hm ⟨q3, q4, q5, q6, q7, q8, q10, q11, q12, q13, q16, q19, q20, qH⟩
      rw [nf_of qH]
      have hwm : IntKind.i64.wrap ((m : Int) + 1) = m + 1 := wrap_id (by omega) (by omega)
      cases hb8 : decide (m < M.length)
      ·have hge := of_decide_eq_false hb8
       obtain rfl : m = M.length := by omega
       rw [List.take_of_length_le (Nat.le_refl _), hT] at q19
       have hw3 : IntKind.i64.wrap ((sumC M (L.take j) : Int) + 0) = (sumC M (L.take j) : Int) + 0 := wrap_id (by omega) (by omega)
       have hw5 : IntKind.i64.wrap (sumC M (L.take j) : Int) = (sumC M (L.take j) : Int) := wrap_id (by omega) (by omega)
       have hs1 := sumC_snoc M hx
       rw [hT] at hs1
       simp [q3, q4, q5, q6, q7, q8, q10, q11, q12, q13, q16, q19, q20, hb8, hw3, hw5, hw0, forK]
       refine ⟨hlt, ?_⟩
       simp [hs1]
      ·have hlm := of_decide_eq_true hb8
       obtain ⟨y, hy⟩ := get_some hlm
       have hc1 : (M.take (m + 1)).count x = (M.take m).count x + if y == x then 1 else 0 := by
        rw [take_snoc hy, List.count_append]; simp [List.count_cons]
       have hcl : (M.take m).count x ≤ M.length := Nat.le_trans List.count_le_length (by simp; omega)
       have hw4 : IntKind.i64.wrap (((M.take m).count x : Int) + 1) = ((M.take m).count x : Int) + 1 := wrap_id (by omega) (by omega)
       cases hb7 : (decide (y.1 = x.1) && decide (y.2 = x.2))
       ·have hbe : (y == x) = false := by
         rw [beq_eq_false_iff_ne]; rintro rfl; simp at hb7
        rw [hbe] at hc1
        simp [q3, q4, q5, q6, q7, q8, q10, q11, q12, q13, q16, q19, q20, hb8, hy, hx, hwm, hw4, hb7, forK]
        refine ⟨hlm, hlt, hlm, ?_⟩
        simp only [Bool.false_eq_true, if_false, if_true] at hc1
        omega
       ·have hbe : (y == x) = true := by
         simp at hb7
         rw [beq_iff_eq]; exact Prod.ext hb7.1 hb7.2
        rw [hbe] at hc1
        simp [q3, q4, q5, q6, q7, q8, q10, q11, q12, q13, q16, q19, q20, hb8, hy, hx, hwm, hw4, hb7, forK]
        refine ⟨hlm, hlt, hlm, ?_⟩
        simp only [Bool.false_eq_true, if_false, if_true] at hc1
        omega
    | false =>
     simp [q3, q4, q5, q6, q7, q8, q10, q11, q12, q13, hx]
     have hT : M.count x = 1 := by
      have := times_of (k := k) (comp := k) (wi := []) hw hlx (.inl rfl)
      rw [← hM] at this
      rw [this, hg1]; rfl
     refine twp_for M.length (fun m s => s.t 3 = .pt [(5, 0)] 0 0 ∧ s.t 4 = .pt [(6, 0)] 0 0 ∧ s.t 5 = .pt [(7, 0)] 0 0 ∧ s.t 6 = .i .i64 k ∧ s.t 7 = .i .i64 k ∧ s.t 8 = .rf [(52, 0)] 0 0 ∧ s.t 10 = .rf [(76, 0)] 0 M.length ∧ s.t 11 = .rf [(79, 0)] 0 L.length ∧ s.t 12 = .i .i64 (sumC M (L.take j) : Nat) ∧ s.t 13 = .i .i64 j ∧ s.t 16 = .b true ∧ s.t 19 = .i .i64 ((M.take m).count x : Nat) ∧ s.t 20 = .i .i64 m ∧ s.H = lk [(1, []), (5, [.po true [.sl true 2 (c.map dT), .sl true 2 (r.map dT), .sl true 2 (d.map dT)]]), (6, [.po true [.sl true 1 (w.1.map iT), .sl true 1 (w.2.1.map iT), .sl true 3 (w.2.2.1.map tbO), .sl true 4 (w.2.2.2.map vT)]]), (7, [.po true [.i .i64 e.1, .i .i64 e.2]]), (52, [.sl true 1 (([] : List Int).map iT)]), (54, [.sl true 1 (([k] : List Int).map iT)]), (76, [.sl true 2 (M.map eT)]), (79, [.sl true 2 (L.map eT)])]) [16, 19] (by simp) ?_ ?_
     ·simp [q3, q4, q5, q6, q7, q8, q10, q11, q12, q13]
     ·rintro m s hm ⟨q3, q4, q5, q6, q7, q8, q10, q11, q12, q13, q16, q19, q20, qH⟩
      rw [nf_of qH]
      have hwm : IntKind.i64.wrap ((m : Int) + 1) = m + 1 := wrap_id (by omega) (by omega)
      cases hb8 : decide (m < M.length)
      ·have hge := of_decide_eq_false hb8
       obtain rfl : m = M.length := by omega
       rw [List.take_of_length_le (Nat.le_refl _), hT] at q19
       have hw3 : IntKind.i64.wrap ((sumC M (L.take j) : Int) + 1) = (sumC M (L.take j) : Int) + 1 := wrap_id (by omega) (by omega)
       have hw5 : IntKind.i64.wrap (sumC M (L.take j) : Int) = (sumC M (L.take j) : Int) := wrap_id (by omega) (by omega)
       have hs1 := sumC_snoc M hx
       rw [hT] at hs1
       simp [q3, q4, q5, q6, q7, q8, q10, q11, q12, q13, q16, q19, q20, hb8, hw3, hw5, hw0, forK]
       refine ⟨hlt, ?_⟩
       simp [hs1]
      ·have hlm := of_decide_eq_true hb8
       obtain ⟨y, hy⟩ := get_some hlm
       have hc1 : (M.take (m + 1)).count x = (M.take m).count x + if y == x then 1 else 0 := by
        rw [take_snoc hy, List.count_append]; simp [List.count_cons]
       have hcl : (M.take m).count x ≤ M.length := Nat.le_trans List.count_le_length (by simp; omega)
       have hw4 : IntKind.i64.wrap (((M.take m).count x : Int) + 1) = ((M.take m).count x : Int) + 1 := wrap_id (by omega) (by omega)
       cases hb7 : (decide (y.1 = x.1) && decide (y.2 = x.2))
       ·have hbe : (y == x) = false := by
         rw [beq_eq_false_iff_ne]; rintro rfl; simp at hb7
        rw [hbe] at hc1
        simp [q3, q4, q5, q6, q7, q8, q10, q11, q12, q13, q16, q19, q20, hb8, hy, hx, hwm, hw4, hb7, forK]
        refine ⟨hlm, hlt, hlm, ?_⟩
        simp only [Bool.false_eq_true, if_false, if_true] at hc1
        omega
       ·have hbe : (y == x) = true := by
         simp at hb7
         rw [beq_iff_eq]; exact Prod.ext hb7.1 hb7.2
        rw [hbe] at hc1
        simp [q3, q4, q5, q6, q7, q8, q10, q11, q12, q13, q16, q19, q20, hb8, hy, hx, hwm, hw4, hb7, forK]
        refine ⟨hlm, hlt, hlm, ?_⟩
        simp only [Bool.false_eq_true, if_false, if_true] at hc1
        omega
 ·simp [h1, h2, h3]
  have hMt := w27 w [comp] [k] hok (by simp) (by simp) hsum
  have hMF : matchF w.2.2.1 [comp] [k] = matL [comp] [k] w.2.2.1 := by unfold matchF; rw [if_neg (by simp; omega)]
  rw [hMF] at hMt
  obtain ⟨M, hM⟩ : ∃ M, M = matL [comp] [k] w.2.2.1 := ⟨_, rfl⟩
  have hML : M.length ≤ 2^36 := by rw [hM]; exact Nat.le_trans (matL_len _ _ _) hsum
  have hin : ∀ x ∈ M, x ∈ L := fun x hx => by rw [hM] at hx; rw [hLe]; exact (live_all x).2 (hw.2.2.2.2.1.1 x (matL_sub hx))
  have htot := sumC_all hLn hin
  rw [← hM] at hMt
  unfold worldR at hMt
  refine callW_ms [.ro, .ro, .ro] ?_
  simp
  refine callX_of hMt (by simp) ?_
  simp
  refine callW_ms [.ro] ?_
  simp
  refine callX_of hLc (by simp) ?_
  simp
  refine twp_for L.length (fun j s => s.t 3 = .pt [(5, 0)] 0 0 ∧ s.t 4 = .pt [(6, 0)] 0 0 ∧ s.t 5 = .pt [(7, 0)] 0 0 ∧ s.t 6 = .i .i64 comp ∧ s.t 7 = .i .i64 k ∧ s.t 8 = .rf [(72, 0)] 0 1 ∧ s.t 10 = .rf [(76, 0)] 0 M.length ∧ s.t 11 = .rf [(79, 0)] 0 L.length ∧ s.t 12 = .i .i64 (sumC M (L.take j) : Nat) ∧ s.t 13 = .i .i64 j ∧ s.H = lk [(1, []), (5, [.po true [.sl true 2 (c.map dT), .sl true 2 (r.map dT), .sl true 2 (d.map dT)]]), (6, [.po true [.sl true 1 (w.1.map iT), .sl true 1 (w.2.1.map iT), .sl true 3 (w.2.2.1.map tbO), .sl true 4 (w.2.2.2.map vT)]]), (7, [.po true [.i .i64 e.1, .i .i64 e.2]]), (54, [.sl true 1 (([k] : List Int).map iT)]), (72, [.sl true 1 (([comp] : List Int).map iT)]), (76, [.sl true 2 (M.map eT)]), (79, [.sl true 2 (L.map eT)])]) [16, 19, 31, 52, 71] (by simp) ?_ ?_
  ·simp [sumC]
  ·rintro j s hj ⟨q3, q4, q5, q6, q7, q8, q10, q11, q12, q13, qH⟩
   rw [nf_of qH]
   have hw0 : IntKind.i64.wrap ((j : Int) + 1) = j + 1 := wrap_id (by omega) (by omega)
   have hsj : sumC M (L.take j) ≤ M.length := by rw [← htot]; exact sumC_le M L j
   cases hb9 : decide (j < L.length)
   ·have hge := of_decide_eq_false hb9
    obtain rfl : j = L.length := by omega
    rw [List.take_of_length_le (Nat.le_refl _), htot] at q12
    have hGi := w17 c r d w e comp hok (by omega) (by omega) (by omega) hsm
    have hGs := w15 c r d w e comp hok (by omega) (by omega) (by omega) hfw
    unfold regR worldR valV at hGi hGs
    generalize getP c r d w e comp = p at hGi hGs
    obtain ⟨v, b⟩ := p
    simp only at hGi hGs
    simp [q3, q4, q5, q6, q7, q8, q10, q11, q12, q13, hb9]
    refine callW_ms [.ro, .ro, .ro, .ro] ?_
    simp
    refine callX_of hGi (by simp) ?_
    simp [q3, q4, q5, q6, q7, q8, q10, q11, q12, q13]
    refine callW_ms [.ro, .ro, .ro, .ro] ?_
    simp
    refine callX_of hGs (by simp) ?_
    simp [q3, q4, q5, q6, q7, q8, q10, q11, q12, q13]
   ·have hlt := of_decide_eq_true hb9
    have hw := hw
    obtain ⟨x, hx⟩ := get_some hlt
    have hlx : liveP w.1 w.2.1 x.1 x.2 := by have := List.mem_of_getElem? hx; rw [hLe] at this; exact (live_all x).1 this
    have hG1 := w15 c r d w x k hok (by omega) (by omega) (by omega) hfw
    unfold regR worldR valV at hG1
    generalize hg1 : getP c r d w x k = p1 at hG1
    obtain ⟨v1, b1⟩ := p1
    simp only at hG1
    simp [q3, q4, q5, q6, q7, q8, q10, q11, q12, q13, hb9, hx]
    refine ⟨by omega, ?_⟩
    refine callW_ms [.ro, .ro, .ro, .ro] ?_
    simp
    refine callX_of hG1 (by simp) ?_
    have hG2 := w15 c r d w x comp hok (by omega) (by omega) (by omega) hfw
    unfold regR worldR valV at hG2
    generalize hg2 : getP c r d w x comp = p2 at hG2
    obtain ⟨v2, b2⟩ := p2
    simp only at hG2
    cases b1 with
    | true =>
     simp [q3, q4, q5, q6, q7, q8, q10, q11, q12, q13, hx]
     refine ⟨by omega, ?_⟩
     refine callW_ms [.ro, .ro, .ro, .ro] ?_
     simp [hx]
     refine callX_of hG2 (by simp) ?_
     simp [q3, q4, q5, q6, q7, q8, q10, q11, q12, q13, hx]
     have hT : M.count x = 0 := by
      have := times_of (k := k) (comp := comp) (wi := [comp]) hw hlx (.inr rfl)
      rw [← hM] at this
      rw [this, hg1, hg2]; rfl
     refine twp_for M.length (fun m s => s.t 3 = .pt [(5, 0)] 0 0 ∧ s.t 4 = .pt [(6, 0)] 0 0 ∧ s.t 5 = .pt [(7, 0)] 0 0 ∧ s.t 6 = .i .i64 comp ∧ s.t 7 = .i .i64 k ∧ s.t 8 = .rf [(72, 0)] 0 1 ∧ s.t 10 = .rf [(76, 0)] 0 M.length ∧ s.t 11 = .rf [(79, 0)] 0 L.length ∧ s.t 12 = .i .i64 (sumC M (L.take j) : Nat) ∧ s.t 13 = .i .i64 j ∧ s.t 16 = .b false ∧ s.t 19 = .i .i64 ((M.take m).count x : Nat) ∧ s.t 20 = .i .i64 m ∧ s.H = lk [(1, []), (5, [.po true [.sl true 2 (c.map dT), .sl true 2 (r.map dT), .sl true 2 (d.map dT)]]), (6, [.po true [.sl true 1 (w.1.map iT), .sl true 1 (w.2.1.map iT), .sl true 3 (w.2.2.1.map tbO), .sl true 4 (w.2.2.2.map vT)]]), (7, [.po true [.i .i64 e.1, .i .i64 e.2]]), (54, [.sl true 1 (([k] : List Int).map iT)]), (72, [.sl true 1 (([comp] : List Int).map iT)]), (76, [.sl true 2 (M.map eT)]), (79, [.sl true 2 (L.map eT)])]) [16, 19] (by simp) ?_ ?_
     ·simp [q3, q4, q5, q6, q7, q8, q10, q11, q12, q13]
     ·rintro m s hm ⟨q3, q4, q5, q6, q7, q8, q10, q11, q12, q13, q16, q19, q20, qH⟩
      rw [nf_of qH]
      have hwm : IntKind.i64.wrap ((m : Int) + 1) = m + 1 := wrap_id (by omega) (by omega)
      cases hb8 : decide (m < M.length)
      ·have hge := of_decide_eq_false hb8
       obtain rfl : m = M.length := by omega
       rw [List.take_of_length_le (Nat.le_refl _), hT] at q19
       have hw3 : IntKind.i64.wrap ((sumC M (L.take j) : Int) + 0) = (sumC M (L.take j) : Int) + 0 := wrap_id (by omega) (by omega)
       have hw5 : IntKind.i64.wrap (sumC M (L.take j) : Int) = (sumC M (L.take j) : Int) := wrap_id (by omega) (by omega)
       have hs1 := sumC_snoc M hx
       rw [hT] at hs1
       simp [q3, q4, q5, q6, q7, q8, q10, q11, q12, q13, q16, q19, q20, hb8, hw3, hw5, hw0, forK]
       refine ⟨hlt, ?_⟩
       simp [hs1]
      ·have hlm := of_decide_eq_true hb8
       obtain ⟨y, hy⟩ := get_some hlm
       have hc1 : (M.take (m + 1)).count x = (M.take m).count x + if y == x then 1 else 0 := by
        rw [take_snoc hy, List.count_append]; simp [List.count_cons]
       have hcl : (M.take m).count x ≤ M.length := Nat.le_trans List.count_le_length (by simp; omega)
       have hw4 : IntKind.i64.wrap (((M.take m).count x : Int) + 1) = ((M.take m).count x : Int) + 1 := wrap_id (by omega) (by omega)
       cases hb7 : (decide (y.1 = x.1) && decide (y.2 = x.2))
       ·have hbe : (y == x) = false := by
         rw [beq_eq_false_iff_ne]; rintro rfl; simp at hb7
        rw [hbe] at hc1
        simp [q3, q4, q5, q6, q7, q8, q10, q11, q12, q13, q16, q19, q20, hb8, hy, hx, hwm, hw4, hb7, forK]
        refine ⟨hlm, hlt, hlm, ?_⟩
        simp only [Bool.false_eq_true, if_false, if_true] at hc1
        omega
       ·have hbe : (y == x) = true := by
         simp at hb7
         rw [beq_iff_eq]; exact Prod.ext hb7.1 hb7.2
        rw [hbe] at hc1
        simp [q3, q4, q5, q6, q7, q8, q10, q11, q12, q13, q16, q19, q20, hb8, hy, hx, hwm, hw4, hb7, forK]
        refine ⟨hlm, hlt, hlm, ?_⟩
        simp only [Bool.false_eq_true, if_false, if_true] at hc1
        omega
    | false =>
     simp [q3, q4, q5, q6, q7, q8, q10, q11, q12, q13, hx]
     refine ⟨by omega, ?_⟩
     refine callW_ms [.ro, .ro, .ro, .ro] ?_
     simp [hx]
     refine callX_of hG2 (by simp) ?_
     cases b2 with
     | true =>
      simp [q3, q4, q5, q6, q7, q8, q10, q11, q12, q13, hx]
      have hT : M.count x = 1 := by
       have := times_of (k := k) (comp := comp) (wi := [comp]) hw hlx (.inr rfl)
       rw [← hM] at this
       rw [this, hg1, hg2]; rfl
      refine twp_for M.length (fun m s => s.t 3 = .pt [(5, 0)] 0 0 ∧ s.t 4 = .pt [(6, 0)] 0 0 ∧ s.t 5 = .pt [(7, 0)] 0 0 ∧ s.t 6 = .i .i64 comp ∧ s.t 7 = .i .i64 k ∧ s.t 8 = .rf [(72, 0)] 0 1 ∧ s.t 10 = .rf [(76, 0)] 0 M.length ∧ s.t 11 = .rf [(79, 0)] 0 L.length ∧ s.t 12 = .i .i64 (sumC M (L.take j) : Nat) ∧ s.t 13 = .i .i64 j ∧ s.t 16 = .b true ∧ s.t 19 = .i .i64 ((M.take m).count x : Nat) ∧ s.t 20 = .i .i64 m ∧ s.H = lk [(1, []), (5, [.po true [.sl true 2 (c.map dT), .sl true 2 (r.map dT), .sl true 2 (d.map dT)]]), (6, [.po true [.sl true 1 (w.1.map iT), .sl true 1 (w.2.1.map iT), .sl true 3 (w.2.2.1.map tbO), .sl true 4 (w.2.2.2.map vT)]]), (7, [.po true [.i .i64 e.1, .i .i64 e.2]]), (54, [.sl true 1 (([k] : List Int).map iT)]), (72, [.sl true 1 (([comp] : List Int).map iT)]), (76, [.sl true 2 (M.map eT)]), (79, [.sl true 2 (L.map eT)])]) [16, 19] (by simp) ?_ ?_
      ·simp [q3, q4, q5, q6, q7, q8, q10, q11, q12, q13]
      ·rintro m s hm ⟨q3, q4, q5, q6, q7, q8, q10, q11, q12, q13, q16, q19, q20, qH⟩
       rw [nf_of qH]
       have hwm : IntKind.i64.wrap ((m : Int) + 1) = m + 1 := wrap_id (by omega) (by omega)
       cases hb8 : decide (m < M.length)
       ·have hge := of_decide_eq_false hb8
        obtain rfl : m = M.length := by omega
        rw [List.take_of_length_le (Nat.le_refl _), hT] at q19
        have hw3 : IntKind.i64.wrap ((sumC M (L.take j) : Int) + 1) = (sumC M (L.take j) : Int) + 1 := wrap_id (by omega) (by omega)
        have hw5 : IntKind.i64.wrap (sumC M (L.take j) : Int) = (sumC M (L.take j) : Int) := wrap_id (by omega) (by omega)
        have hs1 := sumC_snoc M hx
        rw [hT] at hs1
        simp [q3, q4, q5, q6, q7, q8, q10, q11, q12, q13, q16, q19, q20, hb8, hw3, hw5, hw0, forK]
        refine ⟨hlt, ?_⟩
        simp [hs1]
       ·have hlm := of_decide_eq_true hb8
        obtain ⟨y, hy⟩ := get_some hlm
        have hc1 : (M.take (m + 1)).count x = (M.take m).count x + if y == x then 1 else 0 := by
         rw [take_snoc hy, List.count_append]; simp [List.count_cons]
        have hcl : (M.take m).count x ≤ M.length := Nat.le_trans List.count_le_length (by simp; omega)
        have hw4 : IntKind.i64.wrap (((M.take m).count x : Int) + 1) = ((M.take m).count x : Int) + 1 := wrap_id (by omega) (by omega)
        cases hb7 : (decide (y.1 = x.1) && decide (y.2 = x.2))
        ·have hbe : (y == x) = false := by
          rw [beq_eq_false_iff_ne]; rintro rfl; simp at hb7
         rw [hbe] at hc1
         simp [q3, q4, q5, q6, q7, q8, q10, q11, q12, q13, q16, q19, q20, hb8, hy, hx, hwm, hw4, hb7, forK]
         refine ⟨hlm, hlt, hlm, ?_⟩
         simp only [Bool.false_eq_true, if_false, if_true] at hc1
         omega
        ·have hbe : (y == x) = true := by
          simp at hb7
          rw [beq_iff_eq]; exact Prod.ext hb7.1 hb7.2
         rw [hbe] at hc1
         simp [q3, q4, q5, q6, q7, q8, q10, q11, q12, q13, q16, q19, q20, hb8, hy, hx, hwm, hw4, hb7, forK]
         refine ⟨hlm, hlt, hlm, ?_⟩
         simp only [Bool.false_eq_true, if_false, if_true] at hc1
         omega
     | false =>
      simp [q3, q4, q5, q6, q7, q8, q10, q11, q12, q13, hx]
      have hT : M.count x = 0 := by
       have := times_of (k := k) (comp := comp) (wi := [comp]) hw hlx (.inr rfl)
       rw [← hM] at this
       rw [this, hg1, hg2]; rfl
      refine twp_for M.length (fun m s => s.t 3 = .pt [(5, 0)] 0 0 ∧ s.t 4 = .pt [(6, 0)] 0 0 ∧ s.t 5 = .pt [(7, 0)] 0 0 ∧ s.t 6 = .i .i64 comp ∧ s.t 7 = .i .i64 k ∧ s.t 8 = .rf [(72, 0)] 0 1 ∧ s.t 10 = .rf [(76, 0)] 0 M.length ∧ s.t 11 = .rf [(79, 0)] 0 L.length ∧ s.t 12 = .i .i64 (sumC M (L.take j) : Nat) ∧ s.t 13 = .i .i64 j ∧ s.t 16 = .b false ∧ s.t 19 = .i .i64 ((M.take m).count x : Nat) ∧ s.t 20 = .i .i64 m ∧ s.H = lk [(1, []), (5, [.po true [.sl true 2 (c.map dT), .sl true 2 (r.map dT), .sl true 2 (d.map dT)]]), (6, [.po true [.sl true 1 (w.1.map iT), .sl true 1 (w.2.1.map iT), .sl true 3 (w.2.2.1.map tbO), .sl true 4 (w.2.2.2.map vT)]]), (7, [.po true [.i .i64 e.1, .i .i64 e.2]]), (54, [.sl true 1 (([k] : List Int).map iT)]), (72, [.sl true 1 (([comp] : List Int).map iT)]), (76, [.sl true 2 (M.map eT)]), (79, [.sl true 2 (L.map eT)])]) [16, 19] (by simp) ?_ ?_
      ·simp [q3, q4, q5, q6, q7, q8, q10, q11, q12, q13]
      ·rintro m s hm ⟨q3, q4, q5, q6, q7, q8, q10, q11, q12, q13, q16, q19, q20, qH⟩
       rw [nf_of qH]
       have hwm : IntKind.i64.wrap ((m : Int) + 1) = m + 1 := wrap_id (by omega) (by omega)
       cases hb8 : decide (m < M.length)
       ·have hge := of_decide_eq_false hb8
        obtain rfl : m = M.length := by omega
        rw [List.take_of_length_le (Nat.le_refl _), hT] at q19
        have hw3 : IntKind.i64.wrap ((sumC M (L.take j) : Int) + 0) = (sumC M (L.take j) : Int) + 0 := wrap_id (by omega) (by omega)
        have hw5 : IntKind.i64.wrap (sumC M (L.take j) : Int) = (sumC M (L.take j) : Int) := wrap_id (by omega) (by omega)
        have hs1 := sumC_snoc M hx
        rw [hT] at hs1
        simp [q3, q4, q5, q6, q7, q8, q10, q11, q12, q13, q16, q19, q20, hb8, hw3, hw5, hw0, forK]
        refine ⟨hlt, ?_⟩
        simp [hs1]
       ·have hlm := of_decide_eq_true hb8
        obtain ⟨y, hy⟩ := get_some hlm
        have hc1 : (M.take (m + 1)).count x = (M.take m).count x + if y == x then 1 else 0 := by
         rw [take_snoc hy, List.count_append]; simp [List.count_cons]
        have hcl : (M.take m).count x ≤ M.length := Nat.le_trans List.count_le_length (by simp; omega)
        have hw4 : IntKind.i64.wrap (((M.take m).count x : Int) + 1) = ((M.take m).count x : Int) + 1 := wrap_id (by omega) (by omega)
        cases hb7 : (decide (y.1 = x.1) && decide (y.2 = x.2))
        ·have hbe : (y == x) = false := by
          rw [beq_eq_false_iff_ne]; rintro rfl; simp at hb7
         rw [hbe] at hc1
         simp [q3, q4, q5, q6, q7, q8, q10, q11, q12, q13, q16, q19, q20, hb8, hy, hx, hwm, hw4, hb7, forK]
         refine ⟨hlm, hlt, hlm, ?_⟩
         simp only [Bool.false_eq_true, if_false, if_true] at hc1
         omega
        ·have hbe : (y == x) = true := by
          simp at hb7
          rw [beq_iff_eq]; exact Prod.ext hb7.1 hb7.2
         rw [hbe] at hc1
         simp [q3, q4, q5, q6, q7, q8, q10, q11, q12, q13, q16, q19, q20, hb8, hy, hx, hwm, hw4, hb7, forK]
         refine ⟨hlm, hlt, hlm, ?_⟩
         simp only [Bool.false_eq_true, if_false, if_true] at hc1
         omega
end Go.Proofs.YtehmdblkkpdmoaaT

