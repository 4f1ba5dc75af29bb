/- Frame: the walk of the law FrameNames. -/
import Derived.Test.YtceggbbichfjnaaAliveW
import Derived.Test.YtceggbbichfjnaaBackW
import Derived.Laws.MakeOwn
namespace Go.Proofs.Ytceggbbichfjnaa.FrameNames
open Go.ChangeShapes Go.WideShapes Go.ChangeAt Go.RowKit
set_option linter.unusedSimpArgs false
set_option linter.unusedVariables false
open FrameBack (put_n take_framed)
def zs (n : Nat) : List Nat := List.replicate n 0
theorem zs_len (n : Nat) : (zs n).length = n := List.length_replicate ..
def zeros (n : Nat) : Obj := .cells (bytes (zs n)).toArray 5
theorem made (n : Nat) : (Obj.cells (madeCells (Value.int .u8 0).cells n) 5) = zeros n := by
  unfold zeros madeCells zs
  congr 1
  apply Array.ext
  · simp
  · intro i h1 h2
    simp [Value.cells, Nat.mod_one]
theorem run_zeros (n : Nat) (hn : n ≤ 10000) (w : World) : (Instr.makeSlice 22 (.int .i64 (n : Int)) (.int .i64 (n : Int))).run Try.prog w = .ok (.slice (some ⟨w.heap.size, 0, none⟩) n n) (w.alloc (zeros n)) := by
  obtain ⟨i0, hi0, hz0, hz1, hz2⟩ := info_parts info5
  have := run_make (P := Try.prog) w 22 5 i0 _ Try.underlying22 hi0 hz0 .i64 .i64 n n (by omega) (Int.le_refl _) (by rw [hz2]; omega) (by omega)
  rw [this, hz1, ← made]
  simp
theorem reads_zeros (n : Nat) (w : World) : Reads (w.alloc (zeros n)) (w.heap.size + 1) 1 (some ⟨w.heap.size, 0, none⟩) n (bytes (zs n)) := reads_new w _ 5 n (by rw [bytes, List.length_map, zs_len])
theorem crc_wrong : crc [72, 2, 1, 0, 0] = 90850857 := by decide +kernel
theorem zero_lt (n : Nat) : ∀ b ∈ zs n, b < 256 := by unfold zs; intro b hb; rw [List.eq_of_mem_replicate hb]; omega
theorem nine_sum : (zs 9).drop (9 - 4) ≠ told (crc ((zs 9).take (9 - 4))) := by decide +kernel
def wrong : List Nat := [72, 2, 1, 0, 0, 41, 70, 106, 5]
theorem wrong_sum : wrong.drop (9 - 4) = told (crc (wrong.take (9 - 4))) := by decide +kernel
set_option maxHeartbeats 4000000 in
theorem walk (w : World) :
    Calls Try.prog 4 #[] w fun en w' => en = .returned (.bool true) ∧ Below w.heap.size w w' := by
  obtain ⟨i0, hi0, hz0, hz1, hz2⟩ := info_parts info5
  obtain ⟨Z, hZ⟩ : ∃ Z, Z = zeros := ⟨_, rfl⟩
  obtain ⟨zl, hzl⟩ : ∃ zl, zl = zs := ⟨_, rfl⟩
  have run_zeros := run_zeros
  have reads_zeros := reads_zeros
  have zs_len := zs_len
  have zero_lt := zero_lt
  have nine_sum := nine_sum
  rw [← hZ] at run_zeros reads_zeros
  rw [← hzl] at reads_zeros zs_len zero_lt nine_sum
  clear hZ hzl
  have k1 := run_zeros 4097 (by omega)
  have k2 := run_zeros 4096 (by omega)
  have k3 := run_zeros 8 (by omega)
  have k4 := run_zeros 9 (by omega)
  simp only [Int.ofNat_eq_natCast, show ((4097 : Nat) : Int) = 4097 from rfl, show ((4096 : Nat) : Int) = 4096 from rfl, show ((8 : Nat) : Int) = 8 from rfl, show ((9 : Nat) : Int) = 9 from rfl] at k1 k2 k3 k4
  go_enter Try.func4, Try.ntmps4
  go_wp2_with fail
  refine (put_many 1 _ 4097 4097 (by omega) _).mono ?_
  rintro en w1 ⟨rfl, rfl⟩
  go_wp2_with fail
  have hR0 : Reads ((w.alloc (Z 4097)).alloc (Z 4096)) ((w.alloc (Z 4097)).alloc (Z 4096)).heap.size 1 (some ⟨w.heap.size + 1, 0, none⟩) 4096 (bytes (zl 4096)) := by
    have := (reads_zeros 4096 (w.alloc (Z 4097))).more (B' := ((w.alloc (Z 4097)).alloc (Z 4096)).heap.size) (by simp only [World.size_alloc]; exact Nat.le_refl _)
    simp only [World.size_alloc] at this ⊢
    exact this
  refine (put_n 9 (by omega) (some ⟨w.heap.size + 1, 0, none⟩) 4096 4096 (zl 4096) (zs_len _) (zero_lt _) (by omega) ((w.alloc (Z 4097)).alloc (Z 4096)) hR0).mono ?_
  rintro en w2 ⟨ga, ca, rfl, hca, hRa, hb2⟩
  have hB2 : Below w.heap.size w w2 := ((Below.alloc (Below.refl _ _) (Nat.le_refl _) _).alloc (by simp) _ : Below w.heap.size w ((w.alloc (Z 4097)).alloc (Z 4096))).trans (hb2.mono (by simp only [World.size_alloc]; omega))
  go_wp2_with fail
  refine (take_framed 9 (by omega) (zl 4096) 4096 (zs_len _) (zero_lt _) (by omega) ga ca hca _ hRa).mono ?_
  rintro en w3 ⟨gb, cb, rfl, hcb, hRb, hb3⟩
  have hB3 := hB2.trans (hb3.mono hB2.size)
  clear hRa hRb hb2 hb3
  go_wp2_with fail
  refine (take_short _ 8 8 (by omega) _).mono ?_
  rintro en w4 ⟨rfl, rfl⟩
  go_wp2_with fail
  have hR9 : Reads ((w3.alloc (Z 8)).alloc (Z 9)) ((w3.alloc (Z 8)).alloc (Z 9)).heap.size 1 (some ⟨w3.heap.size + 1, 0, none⟩) 9 (bytes (zl 9)) := by
    have := (reads_zeros 9 (w3.alloc (Z 8))).more (B' := ((w3.alloc (Z 8)).alloc (Z 9)).heap.size) (by simp only [World.size_alloc]; exact Nat.le_refl _)
    simp only [World.size_alloc] at this ⊢
    exact this
  refine (take_sum ⟨w3.heap.size + 1, 0, none⟩ 9 9 (zl 9) (zs_len _) (by omega) (by omega) (by omega) (zero_lt _) ((w3.alloc (Z 8)).alloc (Z 9)) hR9 nine_sum).mono ?_
  rintro en w5 ⟨rfl, hb5⟩
  have hB5 : Below w.heap.size w w5 := ((hB3.alloc hB3.size _).alloc (by have := hB3.size; simp; omega) _ : Below w.heap.size w ((w3.alloc (Z 8)).alloc (Z 9))).trans (hb5.mono (by have := hB3.size; simp; omega))
  clear hb5
  go_wp2_with fail
  refine (sum_n (some ⟨w5.heap.size, 0, none⟩) 5 5 (w5.heap.size + 1) [72, 2, 1, 0, 0] rfl (by decide) (by omega) _ (reads_new w5 (bytes [72, 2, 1, 0, 0]) 5 5 rfl)).mono ?_
  rintro en w6 ⟨rfl, rfl⟩
  rw [crc_wrong]
  have hRt : Reads ((w5.alloc (.cells #[.int .u8 72, .int .u8 2, .int .u8 1, .int .u8 0, .int .u8 0] 5)).alloc (.cells #[.int .u8 41, .int .u8 70, .int .u8 106, .int .u8 5] 5)) (w5.heap.size + 2) 1 (some ⟨w5.heap.size + 1, 0, none⟩) 4 (bytes [41, 70, 106, 5]) := by
    have := reads_new (w5.alloc (.cells #[.int .u8 72, .int .u8 2, .int .u8 1, .int .u8 0, .int .u8 0] 5)) (bytes [41, 70, 106, 5]) 5 4 rfl
    rw [World.size_alloc] at this
    exact this
  have hOw : ((w5.alloc (.cells #[.int .u8 72, .int .u8 2, .int .u8 1, .int .u8 0, .int .u8 0] 5)).alloc (.cells #[.int .u8 41, .int .u8 70, .int .u8 106, .int .u8 5] 5)).ownsRow w.heap.size 5 1 (.slice (some ⟨w5.heap.size, 0, none⟩) 5 5) 5 (bytes [72, 2, 1, 0, 0]) := (owns_new w5 w.heap.size hB5.size (bytes [72, 2, 1, 0, 0]) 5 5 rfl (by unfold maxLen; omega)).alloc _
  have hBw : Below w.heap.size w ((w5.alloc (.cells #[.int .u8 72, .int .u8 2, .int .u8 1, .int .u8 0, .int .u8 0] 5)).alloc (.cells #[.int .u8 41, .int .u8 70, .int .u8 106, .int .u8 5] 5)) := (hB5.alloc hB5.size _).alloc (by have := hB5.size; simp; omega) _
  go_wp2_with (first | (at_builtin; refine wpList_append_any _ rfl (.tmp 51) (.tmp 63) _ rfl w.heap.size 5 i0 _ 1 1 Try.underlying22 hi0 hz0 hz1 hz2 rfl (by omega) (.slice (some ⟨w5.heap.size, 0, none⟩) 5 5) 5 (bytes [72, 2, 1, 0, 0]) rfl hOw (w5.heap.size + 2) (some ⟨w5.heap.size + 1, 0, none⟩) 4 4 (bytes [41, 70, 106, 5]) rfl hRt (bytes_one _) (by unfold maxLen; omega) (by omega) (by have := hB5.size; simp; omega) ?_; intro v6 w6 hown6 hg6 hat6; have hO6 : Owns w w6 v6 wrong := hown6; obtain ⟨A6, c6, rfl, hc6, hR6⟩ := hO6.slice; have hB6 : Below w.heap.size w w6 := hBw.grown hg6 (by have := hB5.size; simp; omega) (by intro k hk; simp [Value.ownBlock] at hk; have := hB5.size; omega); clear hown6 hO6 hg6 hat6 hBw hOw hRt))
  obtain ⟨ad6, rfl, _⟩ := hR6.2 (by show 0 < 9; omega)
  refine (take_form ad6 9 c6 wrong rfl (by omega) (by omega) hc6 (by decide) _ hR6 wrong_sum (by decide)).mono ?_
  rintro en w7 ⟨rfl, hb7⟩
  have hB7 := hB6.trans (hb7.mono hB6.size)
  clear hb7 hR6
  go_wp2_with fail
  refine (alive_any _).mono ?_
  rintro en w8 ⟨rfl, hb8⟩
  have hB8 := hB7.trans (hb8.mono hB7.size)
  go_wp2_with fail
  refine (sum_n none 0 0 0 [] rfl (by simp) (by omega) _ Reads.none_).mono ?_
  rintro en w9 ⟨rfl, rfl⟩
  rw [show crc [] = 0 from rfl]
  go_wp2
  go_ret
  exact ⟨rfl, hB8⟩
end Go.Proofs.Ytceggbbichfjnaa.FrameNames
