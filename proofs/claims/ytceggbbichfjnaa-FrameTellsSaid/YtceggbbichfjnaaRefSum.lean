/- Frame: the contract of the reference's Sum. -/
import Derived.Test.YtceggbbichfjnaaTakeW
import Derived.Lib.Hide
namespace Go.Proofs.Ytceggbbichfjnaa
open Go.ChangeShapes Go.WideShapes Go.ChangeAt Go.RowKit
set_option linter.unusedSimpArgs false
set_option linter.unusedVariables false
theorem half_odd (x : Nat) (hx : x < 4294967296) (h : x % 2 = 1) : bits .xor .u32 ((x : Int) / 2) 3988292384 = (step x : Nat) := by
  have e : ((x : Int) / 2) = ((x / 2 : Nat) : Int) := by omega
  rw [e]
  have := u32_xor_nat (x / 2) 3988292384 (by omega) (by omega)
  unfold step
  rw [if_pos h, ← this]
  rfl
theorem half_even (x : Nat) (h : x % 2 ≠ 1) : ((x : Int) / 2) = (step x : Nat) := by
  unfold step
  rw [if_neg h, Nat.xor_zero]
  omega
set_option maxHeartbeats 4000000 in
theorem rsum_n (A : Option Addr) (n c B : Nat) (l : List Nat) (hn : l.length = n) (hl : ∀ b ∈ l, b < 256) (hm : n ≤ 1000000) (w : World) (hR : Reads w B 1 A n (bytes l)) :
    Calls Try.prog 14 #[.slice A n c] w fun en w' => en = .returned (.int .u32 (crc l : Nat)) ∧ w = w' := by
  go_enter Try.func14, Try.ntmps14
  go_wp2
  go_loop [3, 4] (fun u i => ∃ k : Nat, k ≤ n ∧ i = .int .i64 k ∧ u = .int .u32 (word 4294967295 (l.take k) : Nat)) (fun _ i => n - (intOf i).toNat)
  case atStart => exact ⟨0, by omega, rfl, rfl⟩
  case round =>
    obtain ⟨k, hk, rfl, rfl⟩ := hrel
    have hw := word_lt (l := l.take k) (w := 4294967295) (by omega) (fun b hb => hl b (List.mem_of_mem_take hb))
    by_cases hlt : k < n
    · obtain ⟨ad, u, rfl, hab, hu, cA⟩ := hR.at_ hlt
      obtain ⟨b, hb⟩ : ∃ b, b = l[k]'(by omega) := ⟨_, rfl⟩
      have hb2 : b < 256 := by rw [hb]; exact hl _ (List.getElem_mem _)
      have hu' : u = .int .u8 (b : Int) := by
        rw [List.getElem?_map, List.getElem?_eq_getElem (by omega)] at hu
        simp only [Option.map_some, Option.some.injEq] at hu
        rw [← hu, hb]
      subst hu'
      have hnx := Lib.hid (show word 4294967295 (l.take (k + 1)) = feed (word 4294967295 (l.take k)) b by rw [List.take_succ_eq_append_getElem (by omega), word_snoc, hb])
      clear hu hb
      generalize word 4294967295 (l.take k) = v at *
      have hx : v ^^^ b < 4294967296 := Nat.xor_lt_two_pow (n := 32) hw (by omega)
      have e0 := x32 v b hw (by omega)
      have E1 := Lib.hid (show feed v b = steps 8 (v ^^^ b) from rfl)
      go_wp2
      go_loop [3, 5] (fun u i => ∃ j : Nat, j ≤ 8 ∧ i = .int .i64 j ∧ u = .int .u32 (steps j (v ^^^ b) : Nat)) (fun _ i => 8 - (intOf i).toNat)
      case atStart => exact ⟨0, by omega, rfl, by first | rfl | (rw [e0]; rfl)⟩
      case round =>
        clear e0
        obtain ⟨j, hj, rfl, rfl⟩ := hrel
        have hs := steps_lt hx j
        have hst := Lib.hid (steps_succ j (v ^^^ b))
        by_cases hj8 : j < 8
        · have hho := Lib.hid (half_odd (steps j (v ^^^ b)) hs)
          have hhe := Lib.hid (half_even (steps j (v ^^^ b)))
          generalize steps j (v ^^^ b) = x at *
          rcases Nat.mod_two_eq_zero_or_one x with h0 | h0
          · have y1 : ((x : Int).tmod 2 == 1) = false := by rw [Int.tmod_eq_emod_of_nonneg (by omega)]; simp; omega
            have y2 := Lib.hid (hhe.out (by omega))
            go_wp2
            go_round
            case rel => exact ⟨j + 1, by omega, by go_num, by rw [hst.out, ← y2.out]⟩
            case measure => simp [intOf]; omega
          · have y1 : ((x : Int).tmod 2 == 1) = true := by rw [Int.tmod_eq_emod_of_nonneg (by omega)]; simp; omega
            have y2 := Lib.hid (hho.out h0)
            go_wp2
            go_round
            case rel => exact ⟨j + 1, by omega, by go_num, by rw [hst.out, ← y2.out]⟩
            case measure => simp [intOf]; omega
        · have he := Lib.hid (show steps j (v ^^^ b) = feed v b by rw [E1.out, show j = 8 by omega])
          generalize steps j (v ^^^ b) = x at *
          go_wp2
          go_round
          case rel => exact ⟨k + 1, by omega, by go_num, by rw [hnx.out, he.out]⟩
          case measure => simp [intOf]; omega
    · have he := Lib.hid (show crc l = 4294967295 - word 4294967295 (l.take k) by unfold crc; rw [List.take_of_length_le (by omega)])
      generalize word 4294967295 (l.take k) = x at *
      have hnv := Lib.hid (not_val x hw)
      go_wp2
      go_ret
      exact ⟨ret_int (by rw [he.out, ← ones_xor x hw, Nat.xor_comm]; exact u32_xor_nat x 4294967295 hw (by omega)), rfl⟩
end Go.Proofs.Ytceggbbichfjnaa
