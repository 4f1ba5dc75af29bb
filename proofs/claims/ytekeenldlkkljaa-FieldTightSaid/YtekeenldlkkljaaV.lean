/- Field: the laws' helper alive, and Done. -/
import Derived.Test.YtekeenldlkkljaaU
import Derived.Test.YtekeenldlkkljaaE
namespace Go.Proofs.Ytekeenldlkkljaa
open Go.ChangeShapes Go.WideShapes Go.ChangeAt Go.RowKit
set_option linter.unusedSimpArgs false
set_option linter.unusedVariables false
set_option maxHeartbeats 8000000 in
theorem alive_any (w : World) : Calls Try.prog 22 #[] w fun en w' => en = .returned (.bool true) ∧ Below w.heap.size w w' := by
  have h1 := putn_u none 0 0 [] rfl (by omega) 258 (by omega) 2 w Reads.none_
  rw [show pnX [] 258 2 = [1, 2] from by decide +kernel, show pnE [] 258 2 = 0 from by decide +kernel] at h1
  have h2 := fun (w : World) => putd_u none 0 0 [] rfl (by omega) true (some ⟨w.heap.size, 0, none⟩) 1 1 [3] rfl (by decide) (by decide) 2 (w.alloc (.cells (u32s [3]).toArray 50)) Reads.none_ (by rw [World.size_alloc]; exact reads_new w (u32s [3]) 50 1 rfl)
  rw [show pdX [] true [3] 2 = [1, 0, 2, 1, 0, 0, 0, 3] from by decide +kernel, show pdE [] true [3] 2 = 0 from by decide +kernel] at h2
  have h3 := fun (w : World) => putd_u none 0 0 [] rfl (by omega) false none 0 0 [] rfl (by decide) (by decide) 0 w Reads.none_ Reads.none_
  rw [show pdX [] false [] 0 = [0, 0, 0, 0] from by decide +kernel, show pdE [] false [] 0 = 0 from by decide +kernel] at h3
  go_enter Try.func22, Try.ntmps22
  go_wp2_with fail
  refine h1.mono ?_
  intro en w1 hh
  obtain ⟨A1, c1, rfl, ho1, hb1⟩ := hh.at_ 2 rfl
  clear hh h1
  go_wp2_with fail
  refine (h2 w1).mono ?_
  intro en w2 hh
  obtain ⟨A2, c2, rfl, ho2, hb2⟩ := hh.at_ 8 rfl
  clear hh h2
  have hBx := hb1.alloc hb1.size (.cells (u32s [3]).toArray 50)
  have hB2 := hBx.trans (hb2.mono hBx.size)
  have hR1 : Reads w2 w1.heap.size 1 A1 2 (u8s [1, 2]) := ((Reads.of_own ho1).alloc (Nat.le_refl _) (.cells (u32s [3]).toArray 50)).below (hb2.mono (by rw [World.size_alloc]; omega))
  go_wp2_with fail
  refine (h3 _).mono ?_
  intro en w3 hh
  obtain ⟨A3, c3, rfl, ho3, hb3⟩ := hh.at_ 4 rfl
  clear hh h3
  have hB3 := hB2.trans (hb3.mono hB2.size)
  have hz : w1.heap.size ≤ w2.heap.size := by have := hb2.size; rw [World.size_alloc] at this; omega
  have k1 : (convert 22 9 (.slice A1 2 c1)).run Try.prog w3 = .ok (.string ⟨#[1, 2]⟩) w3 := conv_str (l := [1, 2]) rfl (by decide) (hR1.below (hb3.mono hz))
  have k2 : (convert 22 9 (.slice A2 8 c2)).run Try.prog w3 = .ok (.string ⟨#[1, 0, 2, 1, 0, 0, 0, 3]⟩) w3 := conv_str (l := [1, 0, 2, 1, 0, 0, 0, 3]) rfl (by decide) ((Reads.of_own ho2).below hb3)
  have k3 : (convert 22 9 (.slice A3 4 c3)).run Try.prog w3 = .ok (.string ⟨#[0, 0, 0, 0]⟩) w3 := conv_str (l := [0, 0, 0, 0]) rfl (by decide) (Reads.of_own ho3)
  clear ho1 ho2 ho3 hR1 hb1 hb2 hb3
  go_wp2
  go_ret
  exact ⟨rfl, hB3⟩
theorem done_any (A : Option Addr) (n c : Nat) (p : Int) (w : World) : Calls Try.prog 20 #[rst A n c p] w fun en w' => en = .returned (.bool (p == (n : Int))) ∧ Below w.heap.size w w' := by
  go_enter Try.func20, Try.ntmps20
  go_wp2
  go_ret
  exact ⟨rfl, (Below.refl _ w).alloc (Nat.le_refl _) _⟩
end Go.Proofs.Ytekeenldlkkljaa
