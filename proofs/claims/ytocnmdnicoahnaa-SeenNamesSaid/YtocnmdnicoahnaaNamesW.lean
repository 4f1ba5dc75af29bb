/- Seen: the walk of the law SeenNames. -/
import Derived.Test.YtocnmdnicoahnaaH
import Derived.Laws.MakeOwn
namespace Go.Proofs.Ytocnmdnicoahnaa.SeenNames
open Go.ChangeShapes Go.WideShapes Go.ChangeAt Go.RowKit
set_option linter.unusedSimpArgs false
set_option linter.unusedVariables false
theorem info3 : (Try.prog.info? 3).map (fun i => (i.zero, i.size, i.bytes)) = some (some (.int .i64 0), 1, 8) := by kernel_rfl
theorem made : ∃ Z : Obj, ∀ w, (Instr.makeSlice 22 (.int .i64 4097) (.int .i64 4097)).run Try.prog w = .ok (.slice (some ⟨w.heap.size, 0, none⟩) 4097 4097) (w.alloc Z) := by
  obtain ⟨i0, hi0, hz0, hz1, hz2⟩ := info_parts info3
  exact ⟨_, fun w => run_make (P := Try.prog) w 22 3 i0 _ Try.underlying22 hi0 hz0 .i64 .i64 4097 4097 (by omega) (Int.le_refl _) (by rw [hz2]; omega) (by omega)⟩
theorem k012 {k : Nat} (h : IsFirst [0, 1, 2] k) : k = 3 := by
  obtain ⟨h1, h2, h3⟩ := h
  rcases Nat.lt_or_ge k 3 with h | h
  · have h4 := h3 (by simp; omega)
    have : k = 0 ∨ k = 1 ∨ k = 2 := by omega
    rcases this with rfl | rfl | rfl <;> simp at h4
  · simp at h1
    omega
theorem knil {k : Nat} (h : IsFirst [] k) : k = 0 := by
  have := h.1
  simpa using this
set_option maxHeartbeats 8000000 in
theorem walk (w : World) : Calls Try.prog 4 #[] w fun en w' => en = .returned (.bool true) ∧ Below w.heap.size w w' := by
  obtain ⟨Z, hZ⟩ := made
  go_enter Try.func4, Try.ntmps4
  go_wp2_with fail
  refine (put_err none 0 0 [] rfl 1048576 2 (by decide) (by decide) _ Reads.none_).mono ?_
  rintro en w1 ⟨rfl, hb1⟩
  go_wp2_with fail
  refine (put_yes none 0 0 [] rfl 1048575 (by decide) (by simp) (by omega) _ Reads.none_).mono ?_
  rintro en w2 ⟨k0, A2, c2, _, rfl, hc2, hR2, hb2⟩
  have hB2 := hb1.trans (hb2.mono hb1.size)
  clear hR2 hb2
  go_wp2_with fail
  refine (has_no (some ⟨w2.heap.size, 0, none⟩) 2 2 [3, 3] rfl (-1) 8 (by decide) (by decide) (by decide) (w2.alloc (.cells (ints [3, 3]).toArray 3)) (new3 w2 [3, 3] 2 rfl)).mono ?_
  rintro en w3 ⟨rfl, hb3⟩
  have hBx := hB2.alloc hB2.size (.cells (ints [3, 3]).toArray 3)
  have hB3 := hBx.trans (hb3.mono hBx.size)
  clear hb3 hBx
  go_wp2_with fail
  refine (first_yes none 0 0 [] rfl (by decide) _ Reads.none_).mono ?_
  rintro en w4 ⟨k, hk, rfl, hb4⟩
  obtain rfl := knil hk
  have hB4 := hB3.trans (hb4.mono hB3.size)
  clear hb4 hk
  go_wp2_with fail
  refine (first_yes (some ⟨w4.heap.size, 0, none⟩) 3 3 [0, 1, 2] rfl (by decide) (w4.alloc (.cells (ints [0, 1, 2]).toArray 3)) (new3 w4 [0, 1, 2] 3 rfl)).mono ?_
  rintro en w5 ⟨k, hk, rfl, hb5⟩
  obtain rfl := k012 hk
  have hBy := hB4.alloc hB4.size (.cells (ints [0, 1, 2]).toArray 3)
  have hB5 := hBy.trans (hb5.mono hBy.size)
  clear hb5 hk hBy
  go_wp2_with fail
  refine (alive_any _).mono ?_
  rintro en w6 ⟨rfl, hb6⟩
  have hB6 := hB5.trans (hb6.mono hB5.size)
  clear hb6
  go_wp2_with fail
  refine (check_many _ 4097 4097 (by omega) _).mono ?_
  rintro en w7 ⟨rfl, rfl⟩
  have hB7 := hB6.alloc hB6.size Z
  have hB8 := hB7.alloc hB7.size (.cells (ints [-1]).toArray 3)
  go_wp2_with fail
  refine (check_any (some ⟨w6.heap.size + 1, 0, none⟩) 1 1 _ [-1] rfl ((w6.alloc Z).alloc (.cells (ints [-1]).toArray 3)) (by have := new3 (w6.alloc Z) [-1] 1 rfl; rw [World.size_alloc w6] at this; exact this)).mono ?_
  rintro en w8 ⟨rfl, rfl⟩
  rw [show chkL [-1] = 8 by decide]
  go_wp2
  go_ret
  exact ⟨rfl, hB8⟩
end Go.Proofs.Ytocnmdnicoahnaa.SeenNames
