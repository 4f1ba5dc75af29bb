/- Frame: the contract of the program's Sum: of whatever bytes; it only reads. -/
import Derived.Test.YtjmhefkmpfkpbaaProg
import Derived.Test.YtjmhefkmpfkpbaaKA
import Derived.Test.YtjmhefkmpfkpbaaPlain
import Derived.WalkSpells
import Derived.WalkLawsBesides
import Derived.Lib.Hide
namespace Go.Proofs.Ytjmhefkmpfkpbaa
open Go.ChangeShapes Go.WideShapes Go.ChangeAt Go.RowKit
set_option linter.unusedSimpArgs false

set_option maxHeartbeats 1000000 in
theorem add_any (v b : Nat) (hv : v < 4294967296) (hb : b < 256) (w : World) :
    Calls Try.prog 81 #[.int .u32 v, .int .u8 b] w fun en w' => en = .returned (.int .u32 (feed v b : Nat)) ∧ w = w' := by
  have hx : v ^^^ b < 4294967296 := Nat.xor_lt_two_pow (n := 32) hv (by omega)
  have e0 := x32 v b hv (by omega)
  have E1 : Hid (feed v b = steps 8 (v ^^^ b)) := rfl
  go_enter Try.func81, Try.ntmps81
  go_wp2
  go_loop [0, 10] (fun u i => ∃ k : Nat, k ≤ 8 ∧ i = .int .i64 k ∧ u = .int .u32 (steps k (v ^^^ b) : Nat)) (fun _ i => 8 - (intOf i).toNat)
  case atStart => exact ⟨0, by omega, rfl, rfl⟩
  case round =>
    clear e0
    obtain ⟨k, hk, rfl, rfl⟩ := hrel
    have hs := steps_lt hx k
    have hn := Lib.hid (steps_succ k (v ^^^ b))
    by_cases hlt : k < 8
    · have hr := Lib.hid (round_val _ hs)
      generalize steps k (v ^^^ b) = x at *
      go_wp2
      go_round
      case rel => exact ⟨k + 1, by omega, by go_num, by rw [hn.out, hr.out]⟩
      case measure => simp [intOf]; omega
    · have he := Lib.hid (show steps k (v ^^^ b) = feed v b by rw [E1.out, show k = 8 by omega])
      generalize steps k (v ^^^ b) = x at *
      go_wp2
      go_ret
      exact ⟨ret_int (by rw [he.out]), rfl⟩

abbrev bytes (l : List Nat) : List Value := l.map fun b : Nat => Value.int .u8 (b : Int)
set_option maxHeartbeats 1000000 in
theorem sum_any (A : Option Addr) (c B : Nat) (l : List Nat) (hl : ∀ b ∈ l, b < 256) (hm : l.length ≤ 1000000) (w : World) (hR : Reads w B 1 A l.length (bytes l)) :
    Calls Try.prog 51 #[.slice A l.length c] w fun en w' => en = .returned (.int .u32 (crc l : Nat)) ∧ w = w' := by
  go_enter Try.func51, Try.ntmps51
  go_wp2
  go_loop [4, 9] (fun u i => ∃ k : Nat, k ≤ l.length ∧ i = .int .i64 k ∧ u = .int .u32 (word 4294967295 (l.take k) : Nat)) (fun _ i => l.length - (intOf i).toNat)
  case atStart => exact ⟨0, by omega, rfl, rfl⟩
  case round =>
    obtain ⟨k, hk, rfl, rfl⟩ := hrel
    have hw := word_lt (l := l.take k) (w := 4294967295) (by omega) (fun b hb => hl b (List.mem_of_mem_take hb))
    by_cases hlt : k < l.length
    · obtain ⟨ad, u, rfl, hab, hu, cA⟩ := hR.at_ hlt
      obtain ⟨b, hb⟩ : ∃ b, b = l[k] := ⟨_, rfl⟩
      have hb2 : b < 256 := by rw [hb]; exact hl _ (List.getElem_mem hlt)
      have hu' : u = .int .u8 (b : Int) := by
        rw [List.getElem?_map, List.getElem?_eq_getElem hlt] at hu
        simp only [Option.map_some, Option.some.injEq] at hu
        rw [← hu, hb]
      subst hu'
      have hn := Lib.hid (show word 4294967295 (l.take (k + 1)) = feed (word 4294967295 (l.take k)) b by rw [List.take_succ_eq_append_getElem hlt, word_snoc, hb])
      clear hu hb
      generalize word 4294967295 (l.take k) = x at *
      go_wp2_with (go_at_call 81; refine (add_any x b hw hb2 _).mono ?_; rintro en w1 ⟨rfl, rfl⟩)
      go_round
      case rel => exact ⟨k + 1, by omega, by go_num, by rw [hn.out]⟩
      case measure => simp [intOf]; omega
    · have he := Lib.hid (show crc l = 4294967295 - word 4294967295 (l.take k) by unfold crc; rw [List.take_of_length_le (by omega)])
      generalize word 4294967295 (l.take k) = x at *
      go_wp2
      go_ret
      exact ⟨ret_int (by rw [he.out, not_val x hw]), rfl⟩
theorem sum_n (A : Option Addr) (n c B : Nat) (l : List Nat) (hn : l.length = n) (hl : ∀ b ∈ l, b < 256) (hm : n ≤ 1000000) (w : World) (hR : Reads w B 1 A n (bytes l)) :
    Calls Try.prog 51 #[.slice A n c] w fun en w' => en = .returned (.int .u32 (crc l : Nat)) ∧ w = w' := by
  subst hn
  exact sum_any A c B l hl hm w hR
theorem bytes_one (l : List Nat) : ∀ u ∈ bytes l, u.oneCell' = true := by
  intro u hu
  simp only [List.mem_map] at hu
  obtain ⟨b, _, rfl⟩ := hu
  rfl
end Go.Proofs.Ytjmhefkmpfkpbaa
