/- Seen: how many numbers are below one; the first one that lacks; whether one was heard. -/
import Derived.Test.YtocnmdnicoahnaaA
import Derived.StillTailTactics
import Derived.Deep.QuietTactic
import Derived.BigQuiet
import Derived.WalkMore
import Derived.IntWalk
import Derived.Lib.Hide
namespace Go.Proofs.Ytocnmdnicoahnaa
open Go.ChangeShapes Go.WideShapes Go.ChangeAt Go.RowKit
set_option linter.unusedSimpArgs false
set_option linter.unusedVariables false
set_option maxHeartbeats 1000000 in
theorem above_yes (A : Option Addr) (n c B Bs : Nat) (l : List Int) (hn : l.length = n) (i : Nat) (hi : i < n)  (h : ((i : Int) < l.getD i 0)) (w : World) (hR : Reads w B 1 A n (ints l)) (hs : w.cell? ⟨Bs, 0, none⟩ = some (.slice A n c)) :
    Calls Try.prog 22 #[.int .i64 (i : Int), .pointer (some ⟨Bs, 0, none⟩)] w fun en w' => en = .returned (.bool true) ∧ ∃ m, w' = w.drewN m := by
  obtain ⟨ad, rfl, hab, cA⟩ := reads_at hn hR hi
  have i1 : (0 : Int) ≤ i := by omega
  have i2 : (i : Int) < n := by omega
  generalize l.getD i 0 = x at *
  have d : decide ((i : Int) < x) = true := by simp; omega
  clear hR
  go_enter Try.func22, Try.ntmps22
  go_wp2
  go_ret
  exact ⟨rfl, 0, rfl⟩
set_option maxHeartbeats 1000000 in
theorem above_no (A : Option Addr) (n c B Bs : Nat) (l : List Int) (hn : l.length = n) (i : Nat) (hi : i < n)  (h : ¬ ((i : Int) < l.getD i 0)) (w : World) (hR : Reads w B 1 A n (ints l)) (hs : w.cell? ⟨Bs, 0, none⟩ = some (.slice A n c)) :
    Calls Try.prog 22 #[.int .i64 (i : Int), .pointer (some ⟨Bs, 0, none⟩)] w fun en w' => en = .returned (.bool false) ∧ ∃ m, w' = w.drewN m := by
  obtain ⟨ad, rfl, hab, cA⟩ := reads_at hn hR hi
  have i1 : (0 : Int) ≤ i := by omega
  have i2 : (i : Int) < n := by omega
  generalize l.getD i 0 = x at *
  have d : decide ((i : Int) < x) = false := by simp; omega
  clear hR
  go_enter Try.func22, Try.ntmps22
  go_wp2
  go_ret
  exact ⟨rfl, 0, rfl⟩
set_option maxHeartbeats 1000000 in
theorem atleast_yes (A : Option Addr) (n c B Bs : Nat) (l : List Int) (hn : l.length = n) (i : Nat) (hi : i < n) (Bn : Nat) (t : Int) (h : (t ≤ l.getD i 0)) (w : World) (hR : Reads w B 1 A n (ints l)) (hs : w.cell? ⟨Bs, 0, none⟩ = some (.slice A n c)) (hb : w.cell? ⟨Bn, 0, none⟩ = some (.int .i64 t)) :
    Calls Try.prog 29 #[.int .i64 (i : Int), .pointer (some ⟨Bs, 0, none⟩), .pointer (some ⟨Bn, 0, none⟩)] w fun en w' => en = .returned (.bool true) ∧ ∃ m, w' = w.drewN m := by
  obtain ⟨ad, rfl, hab, cA⟩ := reads_at hn hR hi
  have i1 : (0 : Int) ≤ i := by omega
  have i2 : (i : Int) < n := by omega
  generalize l.getD i 0 = x at *
  have d : decide (t ≤ x) = true := by simp; omega
  clear hR
  go_enter Try.func29, Try.ntmps29
  go_wp2_with fail
  go_quiet (fail)
  go_wp2
  go_ret
  exact ⟨rfl, _, rfl⟩
set_option maxHeartbeats 1000000 in
theorem atleast_no (A : Option Addr) (n c B Bs : Nat) (l : List Int) (hn : l.length = n) (i : Nat) (hi : i < n) (Bn : Nat) (t : Int) (h : ¬ (t ≤ l.getD i 0)) (w : World) (hR : Reads w B 1 A n (ints l)) (hs : w.cell? ⟨Bs, 0, none⟩ = some (.slice A n c)) (hb : w.cell? ⟨Bn, 0, none⟩ = some (.int .i64 t)) :
    Calls Try.prog 29 #[.int .i64 (i : Int), .pointer (some ⟨Bs, 0, none⟩), .pointer (some ⟨Bn, 0, none⟩)] w fun en w' => en = .returned (.bool false) ∧ ∃ m, w' = w.drewN m := by
  obtain ⟨ad, rfl, hab, cA⟩ := reads_at hn hR hi
  have i1 : (0 : Int) ≤ i := by omega
  have i2 : (i : Int) < n := by omega
  generalize l.getD i 0 = x at *
  have d : decide (t ≤ x) = false := by simp; omega
  clear hR
  go_enter Try.func29, Try.ntmps29
  go_wp2_with fail
  go_quiet (fail)
  go_wp2
  go_ret
  exact ⟨rfl, _, rfl⟩
set_option maxHeartbeats 4000000 in
theorem place_above (A : Option Addr) (n c B Bs : Nat) (l : List Int) (hn : l.length = n) (hm : n ≤ 4096)  (hmono : ∀ i j, i ≤ j → j < n → (i : Int) < l.getD i 0 → (j : Int) < l.getD j 0) (w : World) (hR : Reads w B 1 A n (ints l)) (hs : w.cell? ⟨Bs, 0, none⟩ = some (.slice A n c)) :
    Calls Try.prog 21 #[.int .i64 (n : Int), .func (.func 22) #[] #[.pointer (some ⟨Bs, 0, none⟩)]] w fun en w' => ∃ k : Nat, k ≤ n ∧ (∀ i, i < k → l.getD i 0 ≤ (i : Int)) ∧ (∀ i, k ≤ i → i < n → (i : Int) < l.getD i 0) ∧ en = .returned (.int .i64 (k : Int)) ∧ ∃ m, w' = w.drewN m := by
  go_enter Try.func21, Try.ntmps21
  go_wp2
  go_step3
  go_wp2
  go_step3
  go_wp2
  go_loopw [5, 6] (fun a b wr => ∃ (p q m : Nat), p ≤ q ∧ q ≤ n ∧ a = .int .i64 p ∧ b = .int .i64 q ∧ (∀ i, i < p → l.getD i 0 ≤ (i : Int)) ∧ (∀ i, q ≤ i → i < n → (i : Int) < l.getD i 0) ∧ wr = w.drewN m) (fun a b _ => (intOf b).toNat - (intOf a).toNat)
  case atStart => exact ⟨0, n, 0, by omega, by omega, rfl, rfl, fun i h => by omega, fun i h h' => by omega, rfl⟩
  case round =>
    obtain ⟨p, q, m, hpq, hqn, rfl, rfl, hlo, hhi, rfl⟩ := hrel
    have w1 : IntKind.i64.wrap ((p : Int) + q) = (p : Int) + q := IntWalk.i64_in _ (by omega)
    have w2 : ((p : Int) + q).tdiv 2 = (((p + q) / 2 : Nat) : Int) := by rw [Int.tdiv_eq_ediv_of_nonneg (by omega)]; omega
    have w3 : ((p : Int) + q) / 2 = (((p + q) / 2 : Nat) : Int) := by omega
    by_cases he : p = q
    · subst he
      have d : ((p : Int) == p) = true := by simp
      have HL := Lib.hid hlo
      have HH := Lib.hid hhi
      clear hlo hhi w2 w3
      go_wp2
      (try rw [Exit.noGoto_ret])
      go_ret
      exact ⟨p, hqn, HL.out, HH.out, rfl, m, rfl⟩
    · have d : ((p : Int) == q) = false := by simp; omega
      have hmid : (p + q) / 2 < n := by omega
      have hl1 : p ≤ (p + q) / 2 := by omega
      have hl2 : (p + q) / 2 < q := by omega
      obtain ⟨r, hr⟩ : ∃ r, (p + q) / 2 = r := ⟨_, rfl⟩
      rw [hr] at w2 w3 hmid hl1 hl2
      have HL := Lib.hid hlo
      have HH := Lib.hid hhi
      have HR : Reads (w.drewN m) B 1 A n (ints l) := hR
      have HS : (w.drewN m).cell? ⟨Bs, 0, none⟩ = some (.slice A n c) := hs
      clear hlo hhi
      by_cases hc : (r : Int) < l.getD r 0
      · go_wp2_with fail
        refine (above_yes A n c B Bs l hn r hmid hc (w.drewN m) HR HS).mono ?_
        rintro en w' ⟨rfl, m2, rfl⟩
        go_wp2
        go_roundw
        case rel => exact ⟨p, r, m + m2, by omega, by omega, rfl, rfl, HL.out, fun i h h' => hmono r i h h' hc, by first | rfl | exact (World.drewN_add ..).symm | simp [World.drewN]; try omega⟩
        case measure => simp [intOf]; omega
      · go_wp2_with fail
        refine (above_no A n c B Bs l hn r hmid (by omega) (w.drewN m) HR HS).mono ?_
        rintro en w' ⟨rfl, m2, rfl⟩
        go_wp2
        go_roundw
        case rel => exact ⟨r + 1, q, m + m2, by omega, by omega, by go_num, rfl, fun i h => by
          rcases Nat.lt_or_ge i r with h2 | h2
          · by_cases h' : (i : Int) < l.getD i 0
            · have := hmono i r (by omega) hmid h'
              omega
            · omega
          · obtain rfl : i = r := by omega
            omega, HH.out, by first | rfl | exact (World.drewN_add ..).symm | simp [World.drewN]; try omega⟩
        case measure => simp [intOf]; omega
set_option maxHeartbeats 4000000 in
theorem place_atleast (A : Option Addr) (n c B Bs : Nat) (l : List Int) (hn : l.length = n) (hm : n ≤ 4096) (Bn : Nat) (t : Int) (hmono : ∀ i j, i ≤ j → j < n → t ≤ l.getD i 0 → t ≤ l.getD j 0) (w : World) (hR : Reads w B 1 A n (ints l)) (hs : w.cell? ⟨Bs, 0, none⟩ = some (.slice A n c)) (hb : w.cell? ⟨Bn, 0, none⟩ = some (.int .i64 t)) :
    Calls Try.prog 21 #[.int .i64 (n : Int), .func (.func 29) #[] #[.pointer (some ⟨Bs, 0, none⟩), .pointer (some ⟨Bn, 0, none⟩)]] w fun en w' => ∃ k : Nat, k ≤ n ∧ (∀ i, i < k → l.getD i 0 < t) ∧ (∀ i, k ≤ i → i < n → t ≤ l.getD i 0) ∧ en = .returned (.int .i64 (k : Int)) ∧ ∃ m, w' = w.drewN m := by
  go_enter Try.func21, Try.ntmps21
  go_wp2
  go_step3
  go_wp2
  go_step3
  go_wp2
  go_loopw [5, 6] (fun a b wr => ∃ (p q m : Nat), p ≤ q ∧ q ≤ n ∧ a = .int .i64 p ∧ b = .int .i64 q ∧ (∀ i, i < p → l.getD i 0 < t) ∧ (∀ i, q ≤ i → i < n → t ≤ l.getD i 0) ∧ wr = w.drewN m) (fun a b _ => (intOf b).toNat - (intOf a).toNat)
  case atStart => exact ⟨0, n, 0, by omega, by omega, rfl, rfl, fun i h => by omega, fun i h h' => by omega, rfl⟩
  case round =>
    obtain ⟨p, q, m, hpq, hqn, rfl, rfl, hlo, hhi, rfl⟩ := hrel
    have w1 : IntKind.i64.wrap ((p : Int) + q) = (p : Int) + q := IntWalk.i64_in _ (by omega)
    have w2 : ((p : Int) + q).tdiv 2 = (((p + q) / 2 : Nat) : Int) := by rw [Int.tdiv_eq_ediv_of_nonneg (by omega)]; omega
    have w3 : ((p : Int) + q) / 2 = (((p + q) / 2 : Nat) : Int) := by omega
    by_cases he : p = q
    · subst he
      have d : ((p : Int) == p) = true := by simp
      have HL := Lib.hid hlo
      have HH := Lib.hid hhi
      clear hlo hhi w2 w3
      go_wp2
      (try rw [Exit.noGoto_ret])
      go_ret
      exact ⟨p, hqn, HL.out, HH.out, rfl, m, rfl⟩
    · have d : ((p : Int) == q) = false := by simp; omega
      have hmid : (p + q) / 2 < n := by omega
      have hl1 : p ≤ (p + q) / 2 := by omega
      have hl2 : (p + q) / 2 < q := by omega
      obtain ⟨r, hr⟩ : ∃ r, (p + q) / 2 = r := ⟨_, rfl⟩
      rw [hr] at w2 w3 hmid hl1 hl2
      have HL := Lib.hid hlo
      have HH := Lib.hid hhi
      have HR : Reads (w.drewN m) B 1 A n (ints l) := hR
      have HS : (w.drewN m).cell? ⟨Bs, 0, none⟩ = some (.slice A n c) := hs
      have HB : (w.drewN m).cell? ⟨Bn, 0, none⟩ = some (.int .i64 t) := hb
      clear hlo hhi
      by_cases hc : t ≤ l.getD r 0
      · go_wp2_with fail
        refine (atleast_yes A n c B Bs l hn r hmid Bn t hc (w.drewN m) HR HS HB).mono ?_
        rintro en w' ⟨rfl, m2, rfl⟩
        go_wp2
        go_roundw
        case rel => exact ⟨p, r, m + m2, by omega, by omega, rfl, rfl, HL.out, fun i h h' => hmono r i h h' hc, by first | rfl | exact (World.drewN_add ..).symm | simp [World.drewN]; try omega⟩
        case measure => simp [intOf]; omega
      · go_wp2_with fail
        refine (atleast_no A n c B Bs l hn r hmid Bn t (by omega) (w.drewN m) HR HS HB).mono ?_
        rintro en w' ⟨rfl, m2, rfl⟩
        go_wp2
        go_roundw
        case rel => exact ⟨r + 1, q, m + m2, by omega, by omega, by go_num, rfl, fun i h => by
          rcases Nat.lt_or_ge i r with h2 | h2
          · by_cases h' : t ≤ l.getD i 0
            · have := hmono i r (by omega) hmid h'
              omega
            · omega
          · obtain rfl : i = r := by omega
            omega, HH.out, by first | rfl | exact (World.drewN_add ..).symm | simp [World.drewN]; try omega⟩
        case measure => simp [intOf]; omega
end Go.Proofs.Ytocnmdnicoahnaa
