/- Frame: the contracts of the reference's Framed and Put. -/
import Derived.Test.YtceggbbichfjnaaRefSum
import Derived.Test.YtceggbbichfjnaaBackW
namespace Go.Proofs.Ytceggbbichfjnaa
open Go.ChangeShapes Go.WideShapes Go.ChangeAt Go.RowKit
set_option linter.unusedSimpArgs false
set_option linter.unusedVariables false
set_option maxHeartbeats 2000000 in
theorem rframed (kind : Nat) (hk : kind < 256) (A : Option Addr) (n c : Nat) (l : List Nat) (hn : l.length = n) (hl : ∀ b ∈ l, b < 256) (hm : n ≤ 4096) (w : World) (hR : Reads w w.heap.size 1 A n (bytes l)) :
    Calls Try.prog 17 #[.int .u8 kind, .slice A n c] w fun en w' => ∃ v, en = .returned v ∧ Owns w w' v (framed kind l) ∧ Below w.heap.size w w' := by
  obtain ⟨i0, hi0, hz0, hz1, hz2⟩ := info_parts info5
  have hx := headed_lt (kind := kind) hk (by omega) hl
  have hc := crc_lt (headed kind l)
  have hlen := Lib.hid (headed_len kind l)
  have hb := Lib.hid (headed_bytes kind l)
  have HN := Lib.hid hn
  have t1 : (n : Int).tmod 256 = (n : Int) % 256 := Int.tmod_eq_emod_of_nonneg (by omega)
  have t2 : ((n : Int) / 256) % 256 = (n : Int) / 256 := by omega
  have t3 : (n : Int).tdiv 256 = (n : Int) / 256 := Int.tdiv_eq_ediv_of_nonneg (by omega)
  obtain ⟨s, hs⟩ : ∃ s, crc (headed kind l) = s := ⟨_, rfl⟩
  rw [hs] at hc
  have t4 : ((s : Int) / 16777216) % 256 = (s : Int) / 16777216 := by omega
  have HS := Lib.hid hs
  clear hs hn
  go_enter Try.func17, Try.ntmps17
  go_wp2_with (first
    | (at_builtin; refine wpList_append_any _ rfl (.tmp 16) (.tmp 17) _ rfl w.heap.size 5 i0 _ 1 1 Try.underlying22 hi0 hz0 hz1 hz2 rfl (by omega) (.slice (some ⟨w.heap.size, 0, none⟩) 5 5) 5 [.int .u8 72, .int .u8 1, .int .u8 (kind : Int), .int .u8 ((n : Int) / 256), .int .u8 ((n : Int) % 256)] rfl (owns_new w w.heap.size (Nat.le_refl _) _ 5 5 rfl (by unfold maxLen; omega)) w.heap.size A n c (bytes l) rfl (hR.alloc (Nat.le_refl _) _) (bytes_one l) (by unfold maxLen; omega) (by omega) (by simp) ?_; intro v1 w1 hown1 hg1 hat1; obtain ⟨g1, cap1, rfl, hg1b, hg1l⟩ := hown1.form (by omega); have hown1 : w1.ownsRow w.heap.size 5 1 (.slice (some ⟨g1, 0, none⟩) (5 + n) cap1) (5 + n) (bytes (headed kind l)) := (by rw [hb.out, HN.out]; exact hown1); have hBel1 : Below w.heap.size w w1 := ((Below.refl _ w).alloc (Nat.le_refl _) _).grown hg1 (by simp) (by intro k hk; simp [Value.ownBlock] at hk; omega))
    | (go_at_call 14; refine (rsum_n (some ⟨g1, 0, none⟩) (5 + n) cap1 w1.heap.size (headed kind l) (by rw [hlen.out, HN.out]) hx (by omega) _ (Reads.of_own hown1)).mono ?_; rintro en w2 ⟨rfl, rfl⟩; rw [HS.out])
    | (at_builtin; refine wpList_append_any _ rfl (.tmp 21) (.tmp 33) _ rfl w.heap.size 5 i0 _ 1 1 Try.underlying22 hi0 hz0 hz1 hz2 rfl (by omega) (.slice (some ⟨g1, 0, none⟩) (5 + n) cap1) (5 + n) (bytes (headed kind l)) rfl (hown1.alloc _) (w1.heap.size + 1) (some ⟨w1.heap.size, 0, none⟩) 4 4 [.int .u8 ((s : Int) % 256), .int .u8 ((s : Int) / 256 % 256), .int .u8 ((s : Int) / 65536 % 256), .int .u8 ((s : Int) / 16777216)] rfl (reads_new w1 _ 5 4 rfl) (by intro u hu; simp at hu; rcases hu with rfl | rfl | rfl | rfl <;> rfl) (by unfold maxLen; omega) (by omega) (by have := hBel1.size; simp; omega) ?_; intro v2 w2 hown2 hg2 hat2))
  go_ret
  refine ⟨v2, rfl, ?_, (hBel1.alloc hBel1.size _).grown hg2 (by have := hBel1.size; simp; omega) (by intro k hk; simp [Value.ownBlock] at hk; omega)⟩
  have hw := hown2
  rw [show 5 + n + 4 = (framed kind l).length by rw [framed_len, HN.out], show bytes (headed kind l) ++ [.int .u8 ((s : Int) % 256), .int .u8 ((s : Int) / 256 % 256), .int .u8 ((s : Int) / 65536 % 256), .int .u8 ((s : Int) / 16777216)] = bytes (framed kind l) by rw [← told_bytes, framed, bytes, bytes, bytes, List.map_append, HS.out]] at hw
  exact hw
set_option maxHeartbeats 2000000 in
theorem rput_n (kind : Nat) (hk : kind < 256) (A : Option Addr) (n c : Nat) (l : List Nat) (hn : l.length = n) (hl : ∀ b ∈ l, b < 256) (hm : n ≤ 4096) (w : World) (hR : Reads w w.heap.size 1 A n (bytes l)) :
    Calls Try.prog 12 #[.int .u8 (kind : Int), .slice A n c] w fun en w' => ∃ g cap, en = .returned (.tuple #[.slice g (n + 9) cap, .int .i64 0]) ∧ n + 9 ≤ cap ∧ Reads w' w'.heap.size 1 g (n + 9) (bytes (framed kind l)) ∧ Below w.heap.size w w' := by
  have hmm : decide ((4096 : Int) < n) = false := by simp; omega
  go_enter Try.func12, Try.ntmps12
  go_wp2_with fail
  refine (rframed kind hk A n c l hn hl hm _ hR).mono ?_
  rintro en w' ⟨v, rfl, ho, hb⟩
  obtain ⟨g, cap, rfl, hc, hR'⟩ := ho.slice
  have e : (framed kind l).length = n + 9 := by rw [framed_len]; omega
  rw [e] at hc hR' ⊢
  clear ho hR hl hn
  go_wp2
  go_ret2
  exact ⟨g, cap, rfl, hc, hR', hb⟩
set_option maxHeartbeats 1000000 in
theorem rput_many (kind : Nat) (A : Option Addr) (n c : Nat) (hm : 4096 < n) (w : World) :
    Calls Try.prog 12 #[.int .u8 kind, .slice A n c] w fun en w' => en = .returned (.tuple #[.slice none 0 0, .int .i64 4]) ∧ w = w' := by
  have hmm : decide ((4096 : Int) < n) = true := by simp; omega
  go_enter Try.func12, Try.ntmps12
  go_wp2
  go_ret2
  exact ⟨rfl, rfl⟩
end Go.Proofs.Ytceggbbichfjnaa
