/- Frame: the laws' helper 'alive': the chapter's examples hold. -/
import Derived.Test.YtceggbbichfjnaaPutW
import Derived.Test.YtceggbbichfjnaaStr
import Derived.Lib.SlBytesConst
namespace Go.Proofs.Ytceggbbichfjnaa
open Go.ChangeShapes Go.WideShapes Go.ChangeAt Go.RowKit
set_option linter.unusedSimpArgs false
theorem crc_digits : crc [49, 50, 51, 52, 53, 54, 55, 56, 57] = 3421780262 := by decide +kernel
theorem Owns.form {w0 w : World} {v : Value} {l : List Nat} (h : Owns w0 w v l) (hn : 0 < l.length) : ∃ g cap, v = .slice (some ⟨g, 0, none⟩) l.length cap ∧ w0.heap.size ≤ g ∧ g < w.heap.size := World.ownsRow.form h hn
theorem Owns.cell {w0 w : World} {g n cap : Nat} {l : List Nat} (h : Owns w0 w (.slice (some ⟨g, 0, none⟩) n cap) l) {i b : Nat} (hb : l[i]? = some b) : w.cell? ⟨g, i, none⟩ = some (.int .u8 (b : Int)) := by
  have := World.ownsRow.cells (g := g) h rfl i (.int .u8 (b : Int)) (by simp [hb])
  rwa [add_mk] at this
theorem Owns.le {w0 w : World} {g n cap : Nat} {l : List Nat} (h : Owns w0 w (.slice (some ⟨g, 0, none⟩) n cap) l) : n ≤ cap := by
  rcases h.2 with ⟨h, _⟩ | ⟨g', cap', cur, hv, _, _, hnc, _⟩
  · cases h
  · injection hv with _ h1 h2
    omega
set_option maxHeartbeats 2000000 in
theorem alive_any (w : World) : Calls Try.prog 8 #[] w fun en w' => en = .returned (.bool true) ∧ Below w.heap.size w w' := by
  have kc := fun (w : World) (C : Array Value) (n c : Nat) => Lib.run_convert_bytes_const (P := Try.prog) w 22 5 C n c Try.underlying22 Try.underlying5
  go_enter Try.func8, Try.ntmps8
  go_wp2_with fail
  refine (put_ok 1 (by omega) none 0 [] (by simp) (by simp) _ Reads.none_).mono ?_
  rintro en w1 ⟨v, rfl, hown, hb⟩
  obtain ⟨g, cap, rfl, hg0, hg1⟩ := hown.form (by rw [framed_len]; omega)
  have hR5 := (Reads.of_own hown).take_ (k := 5) (by rw [framed_len]; omega)
  have kx : ∀ o, (convert 22 9 (.slice (some ⟨g, 0, none⟩) 5 cap)).run Try.prog (w1.alloc o) = .ok (.string ⟨#[72, 1, 1, 0, 0]⟩) (w1.alloc o) := fun o => conv_str (l := [72, 1, 1, 0, 0]) rfl (by decide) (hR5.alloc (Nat.le_refl _) o)
  have hcap := hown.le
  rw [show (framed 1 []).length = 9 from by rw [framed_len]; rfl] at *
  have hcap' : (5 : Int) ≤ cap := by omega
  clear hown
  go_wp2_with fail
  refine (sum_n (some ⟨w1.heap.size, 0, none⟩) 9 9 (w1.heap.size + 1) [49, 50, 51, 52, 53, 54, 55, 56, 57] rfl (by decide) (by omega) _ (reads_mark w1 (bytes [49, 50, 51, 52, 53, 54, 55, 56, 57]) 5 _ 9 rfl)).mono ?_
  rintro en w2 ⟨rfl, rfl⟩
  rw [crc_digits]
  go_wp2
  go_ret
  refine ⟨rfl, ?_⟩
  exact hb.alloc hb.size _
end Go.Proofs.Ytceggbbichfjnaa
