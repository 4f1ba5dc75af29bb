/- Field: the walk of the law FieldNames. -/
import Derived.Test.YtekeenldlkkljaaV
import Derived.Test.YtekeenldlkkljaaF
import Derived.Laws.MakeOwn
namespace Go.Proofs.Ytekeenldlkkljaa.FieldNames
open Go.ChangeShapes Go.WideShapes Go.ChangeAt Go.RowKit
set_option linter.unusedSimpArgs false
set_option linter.unusedVariables false
theorem reads_newc (w : World) (l : List Int) (n : Nat) (hn : l.length = n) : Reads (w.alloc (.cells (u8s l).toArray 5)) (w.alloc (.cells (u8s l).toArray 5)).heap.size 1 (some ⟨w.heap.size, 0, none⟩) n (u8s l) := by
  rw [World.size_alloc]
  exact reads_new w (u8s l) 5 n (by simpa using hn)
theorem made_cells (n : Nat) : madeCells (Value.int .u8 0).cells n = (u8s (List.replicate n 0)).toArray := by
  unfold madeCells
  apply Array.ext
  · simp
  · intro i h1 h2
    simp [Value.cells, Nat.mod_one]
theorem made : ∃ Z : Obj, ∀ w, (Instr.makeSlice 22 (.int .i64 3900) (.int .i64 3900)).run Try.prog w = .ok (.slice (some ⟨w.heap.size, 0, none⟩) 3900 3900) (w.alloc Z) ∧ Reads (w.alloc Z) (w.alloc Z).heap.size 1 (some ⟨w.heap.size, 0, none⟩) 3900 (u8s (List.replicate 3900 0)) := by
  obtain ⟨i0, hi0, hz0, hz1, hz2⟩ := info_parts info5
  refine ⟨.cells (u8s (List.replicate 3900 0)).toArray 5, fun (w : World) => ⟨?_, reads_newc w _ 3900 List.length_replicate⟩⟩
  have := run_make (P := Try.prog) w 22 5 i0 _ Try.underlying22 hi0 hz0 .i64 .i64 3900 3900 (by omega) (Int.le_refl _) (by rw [hz2]; omega) (by omega)
  rw [this, hz1, show (3900 : Int).toNat * 1 = 3900 from rfl, made_cells]
  rfl
theorem ch0 {w a c : World} (h : Below w.heap.size w a) (hb : Below a.heap.size a c) : Below w.heap.size w c := h.trans (hb.mono h.size)
theorem ch1 {w a c : World} {o : Obj} (h : Below w.heap.size w a) (hb : Below (a.alloc o).heap.size (a.alloc o) c) : Below w.heap.size w c :=
  (h.alloc h.size o).trans (hb.mono (h.alloc h.size o).size)
theorem ch2 {w a c : World} {o p : Obj} (h : Below w.heap.size w a) (hb : Below ((a.alloc o).alloc p).heap.size ((a.alloc o).alloc p) c) : Below w.heap.size w c :=
  ch1 (h.alloc h.size o) hb
theorem ch3 {w a c : World} {o p q : Obj} (h : Below w.heap.size w a) (hb : Below (((a.alloc o).alloc p).alloc q).heap.size (((a.alloc o).alloc p).alloc q) c) : Below w.heap.size w c :=
  ch2 (h.alloc h.size o) hb
set_option maxRecDepth 100000 in
set_option maxHeartbeats 16000000 in
theorem walk (w : World) : Calls Try.prog 6 #[] w fun en w' => en = .returned (.bool true) ∧ Below w.heap.size w w' := by
  obtain ⟨Z, hZ⟩ := made
  have g1 := fun (w : World) => putn_u none 0 0 [] rfl (by omega) 256 (by omega) 1 w Reads.none_
  rw [show pnX [] 256 1 = [] from by decide +kernel, show pnE [] 256 1 = 2 from by decide +kernel] at g1
  have g2 := fun (w : World) => putn_u none 0 0 [] rfl (by omega) 0 (by omega) 9 w Reads.none_
  rw [show pnX [] 0 9 = [] from by decide +kernel, show pnE [] 0 9 = 2 from by decide +kernel] at g2
  have hz1 : pnX (List.replicate 3900 0) 0 1 = [] := by unfold pnX; rw [if_neg (by simp)]
  have hz2 : pnE (List.replicate 3900 0) 0 1 = 4 := by unfold pnE; simp
  have g3 := fun (w : World) => putn_u (some ⟨w.heap.size, 0, none⟩) 3900 3900 (List.replicate 3900 0) List.length_replicate (by omega) 0 (by omega) 1 (w.alloc Z) (hZ w).2
  rw [hz1, hz2] at g3
  clear hz1 hz2
  have hZ1 := fun (w : World) => (hZ w).1
  have g4 := fun (w : World) => putd_u none 0 0 [] rfl (by omega) false none 0 0 [] rfl (by decide) (by decide) 1 w Reads.none_ Reads.none_
  rw [show pdX [] false [] 1 = [] from by decide +kernel, show pdE [] false [] 1 = 8 from by decide +kernel] at g4
  have g5 := fun (w : World) (b : Nat) (hb : b = w.heap.size) => num_ok (some ⟨b, 0, none⟩) 3 3 [9, 1, 0] rfl (by decide) (by omega) (by omega) 1 2 (by omega) (by omega) (by omega) _ (hb ▸ reads_newc w [9, 1, 0] 3 rfl)
  rw [show numI (List.take 2 (List.drop 1 [9, 1, 0])) = 256 from by decide +kernel] at g5
  have g6 := fun (w : World) (b : Nat) => num_short (some ⟨b, 0, none⟩) 3 3 (by omega) 2 2 (by omega) (by omega) (by omega) (by omega) w
  have g7 := fun (w : World) => num_bad none 0 0 1 1 (by decide +kernel) w
  have g8 := fun (w : World) (b : Nat) (hb : b = w.heap.size) => dyad_any (some ⟨b, 0, none⟩) 4 4 [2, 0, 0, 0] rfl (by decide) (by omega) (by omega) 0 41 (by decide +kernel) _ (hb ▸ reads_newc w [2, 0, 0, 0] 4 rfl)
  have g9 := fun (w : World) (b : Nat) (hb : b = w.heap.size) => dyad_any (some ⟨b, 0, none⟩) 7 7 [0, 0, 0, 1, 0, 0, 0] rfl (by decide) (by omega) (by omega) 0 40 (by decide +kernel) _ (hb ▸ reads_newc w [0, 0, 0, 1, 0, 0, 0] 7 rfl)
  have g10 := fun (w : World) (b : Nat) (hb : b = w.heap.size) => dyad_any (some ⟨b, 0, none⟩) 8 8 [0, 0, 1, 1, 0, 0, 0, 2] rfl (by decide) (by omega) (by omega) 0 41 (by decide +kernel) _ (hb ▸ reads_newc w [0, 0, 1, 1, 0, 0, 0, 2] 8 rfl)
  clear hZ
  go_enter Try.func6, Try.ntmps6
  go_wp2_with fail
  refine (g1 _).mono ?_
  intro en w1 hh
  obtain ⟨A1, c1, rfl, _, hb1⟩ := hh.at_ 0 rfl
  clear hh
  have hB1 := hb1
  go_wp2_with fail
  refine (g2 _).mono ?_
  intro en w2 hh
  obtain ⟨A2, c2, rfl, _, hb2⟩ := hh.at_ 0 rfl
  clear hh
  have hB2 := hB1.trans (hb2.mono hB1.size)
  go_wp2_with fail
  refine (g3 w2).mono ?_
  intro en w3 hh
  obtain ⟨A3, c3, rfl, _, hb3⟩ := hh.at_ 0 rfl
  clear hh
  have hBx3 := hB2.alloc hB2.size (Z)
  have hB3 := hBx3.trans (hb3.mono hBx3.size)
  go_wp2_with fail
  refine (g4 _).mono ?_
  intro en w4 hh
  obtain ⟨A4, c4, rfl, _, hb4⟩ := hh.at_ 0 rfl
  clear hh
  have hB4 := hB3.trans (hb4.mono hB3.size)
  go_wp2_with fail
  refine (g5 w4 _ rfl).mono ?_
  rintro en w5 ⟨rfl, hb5⟩
  have hB5 := ch1 hB4 hb5
  clear hb5 hB4
  go_wp2_with fail
  refine (g6 _ _).mono ?_
  rintro en w6 ⟨rfl, hb6⟩
  have hB6 := ch2 hB5 hb6
  clear hb6 hB5
  go_wp2_with fail
  refine (g7 _).mono ?_
  rintro en w7 ⟨rfl, hb7⟩
  have hB7 := ch1 hB6 hb7
  clear hb7 hB6
  go_wp2_with fail
  refine (g8 _ _ (by first | rfl | (simp; done) | (simp; omega))).mono ?_
  rintro en w8 ⟨hb8, ⟨_, rfl⟩ | ⟨he, _⟩⟩
  rotate_left
  · exact absurd he (by decide)
  have hB8 := ch2 hB7 hb8
  clear hb8 hB7
  go_wp2_with fail
  refine (g9 _ _ (by first | rfl | (simp; done) | (simp; omega))).mono ?_
  rintro en w9 ⟨hb9, ⟨_, rfl⟩ | ⟨he, _⟩⟩
  rotate_left
  · exact absurd he (by decide)
  have hB9 := ch3 hB8 hb9
  clear hb9 hB8
  go_wp2_with fail
  refine (g10 _ _ (by first | rfl | (simp; done) | (simp; omega))).mono ?_
  rintro en w10 ⟨hb10, ⟨_, rfl⟩ | ⟨he, _⟩⟩
  rotate_left
  · exact absurd he (by decide)
  have hB10 := ch3 hB9 hb10
  clear hb10 hB9
  go_wp2_with fail
  refine (alive_any _).mono ?_
  rintro en w11 ⟨rfl, hb11⟩
  have hB11 := ch2 hB10 hb11
  clear hb11 hB10
  go_wp2_with fail
  refine (done_any none 0 0 0 _).mono ?_
  rintro en w12 ⟨rfl, hb12⟩
  have hB12 := ch0 hB11 hb12
  clear hb12 hB11
  go_wp2_with fail
  refine (done_any none 0 0 (-1) _).mono ?_
  rintro en w13 ⟨rfl, hb13⟩
  have hB13 := ch0 hB12 hb13
  clear hb13 hB12
  clear g1 g2 g3 g4 g5 g6 g7 g8 g9 g10 hZ1
  go_wp2
  go_ret
  exact ⟨rfl, hB13⟩
end Go.Proofs.Ytekeenldlkkljaa.FieldNames
