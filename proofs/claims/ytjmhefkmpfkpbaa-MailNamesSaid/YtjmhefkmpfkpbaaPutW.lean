/- Frame: the contracts of the program's told and Put. -/
import Derived.Test.YtjmhefkmpfkpbaaSumW
import Derived.Test.YtjmhefkmpfkpbaaKA
namespace Go.Proofs.Ytjmhefkmpfkpbaa
open Go.ChangeShapes Go.WideShapes Go.ChangeAt Go.RowKit
set_option linter.unusedSimpArgs false
theorem finfo5 : (Try.prog.info? 5).map (fun i => (i.zero, i.size, i.bytes)) = some (some (.int .u8 0), 1, 1) := by kernel_rfl

theorem told_bytes (s : Nat) : bytes (told s) = [.int .u8 ((s : Int) % 256), .int .u8 ((s : Int) / 256 % 256), .int .u8 ((s : Int) / 65536 % 256), .int .u8 ((s : Int) / 16777216)] := by simp [told]
theorem headed_bytes (kind : Nat) (l : List Nat) : bytes (headed kind l) = [.int .u8 72, .int .u8 1, .int .u8 (kind : Int), .int .u8 ((l.length : Int) / 256), .int .u8 ((l.length : Int) % 256)] ++ bytes l := by simp [headed]
set_option maxHeartbeats 1000000 in
theorem told_any (s : Nat) (hs : s < 4294967296) (w : World) :
    Calls Try.prog 50 #[.int .u32 s] w fun en w' => en = .returned (.slice (some ⟨w.heap.size, 0, none⟩) 4 4) ∧ w' = w.alloc (.cells (bytes (told s)).toArray 5) := by
  go_enter Try.func50, Try.ntmps50
  go_wp2
  go_ret
  exact ⟨rfl, by rw [told_bytes]⟩
def Owns (w0 w : World) (v : Value) (l : List Nat) : Prop := w.ownsRow w0.heap.size 5 1 v l.length (bytes l)
def FPost (w : World) (kind : Nat) (l : List Nat) (en : Ending) (w' : World) : Prop := ∃ v, en = .returned (.tuple #[v, .int .i64 0]) ∧ Owns w w' v (framed kind l) ∧ Below w.heap.size w w'
set_option maxHeartbeats 2000000 in
theorem fput_ok (kind : Nat) (hk : kind < 256) (A : Option Addr) (c : Nat) (l : List Nat) (hl : ∀ b ∈ l, b < 256) (hm : l.length ≤ 4096) (w : World) (hR : Reads w w.heap.size 1 A l.length (bytes l)) :
    Calls Try.prog 24 #[.int .u8 kind, .slice A l.length c] w (FPost w kind l) := by
  obtain ⟨i0, hi0, hz0, hz1, hz2⟩ := info_parts finfo5
  have hmm : decide ((4096 : Int) < l.length) = false := by simp; omega
  have hml : l.length ≤ 4096 := hm
  have hx := headed_lt hk hm hl
  have hc := crc_lt (headed kind l)
  have hlen := Lib.hid (headed_len kind l)
  have hb := Lib.hid (headed_bytes kind l)
  go_enter Try.func24, Try.ntmps24
  go_wp2_with (first
    | (at_builtin; refine wpList_append_any _ rfl (.tmp 18) (.tmp 19) _ rfl w.heap.size 5 i0 _ 1 1 Try.underlying34 hi0 hz0 hz1 hz2 rfl (by omega) (.slice (some ⟨w.heap.size, 0, none⟩) 5 5) 5 [.int .u8 72, .int .u8 1, .int .u8 (kind : Int), .int .u8 ((l.length : Int) / 256), .int .u8 ((l.length : Int) % 256)] rfl (owns_new w w.heap.size (Nat.le_refl _) _ 5 5 rfl (by unfold maxLen; omega)) w.heap.size A l.length c (bytes l) rfl (hR.alloc (Nat.le_refl _) _) (bytes_one l) (by unfold maxLen; omega) (by omega) (by simp) ?_; intro v1 w1 hown1 hg1 hat1; rw [← hb.out] at hown1; obtain ⟨g1, cap1, rfl, hg1b, hg1l⟩ := hown1.form (by omega); have hBel1 : Below w.heap.size w w1 := ((Below.refl _ w).alloc (Nat.le_refl _) _).grown hg1 (by simp) (by intro k hk; simp [Value.ownBlock] at hk; omega))
    | (go_at_call 51; refine (sum_n (some ⟨g1, 0, none⟩) (5 + l.length) cap1 w1.heap.size (headed kind l) hlen.out hx (by omega) _ (Reads.of_own hown1)).mono ?_; rintro en w2 ⟨rfl, rfl⟩)
    | (go_at_call 50; refine (told_any _ hc _).mono ?_; rintro en w2 ⟨rfl, rfl⟩)
    | (at_builtin; refine wpList_append_any _ rfl (.tmp 21) (.tmp 24) _ rfl w.heap.size 5 i0 _ 1 1 Try.underlying34 hi0 hz0 hz1 hz2 rfl (by omega) (.slice (some ⟨g1, 0, none⟩) (5 + l.length) cap1) (5 + l.length) (bytes (headed kind l)) rfl (hown1.alloc _) (w1.heap.size + 1) (some ⟨w1.heap.size, 0, none⟩) 4 4 (bytes (told (crc (headed kind l)))) rfl (reads_new w1 _ 5 4 rfl) (bytes_one _) (by unfold maxLen; omega) (by omega) (by have := hBel1.size; simp; omega) ?_; intro v2 w2 hown2 hg2 hat2))
  go_ret2
  refine ⟨v2, rfl, ?_, (hBel1.alloc hBel1.size _).grown hg2 (by have := hBel1.size; simp; omega) (by intro k hk; simp [Value.ownBlock] at hk; omega)⟩
  unfold Owns
  rw [framed_len, framed, bytes, List.map_append]
  exact hown2
end Go.Proofs.Ytjmhefkmpfkpbaa
