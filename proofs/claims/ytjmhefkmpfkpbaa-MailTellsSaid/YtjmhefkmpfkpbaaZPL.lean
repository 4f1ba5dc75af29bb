/- Mail: two dyads behind a text | Mail: what a mail's content says -/
import Derived.Deep.RegionHeld3
import Derived.Test.YtjmhefkmpfkpbaaZR
import Derived.Test.YtjmhefkmpfkpbaaLK
import Derived.Test.YtjmhefkmpfkpbaaPIJ
namespace Go.Proofs.Ytjmhefkmpfkpbaa
open Go.ChangeShapes Go.WideShapes Go.ChangeAt Go.RowKit
set_option linter.unusedSimpArgs false
set_option linter.unusedVariables false
def ptD (d : Dy) : List (Nat × Nat) := ptsD d.neg (d.ls.map Int.ofNat) d.ex
theorem ptD_total (d : Dy) : total (ptD d) = 4 + 4 * d.ls.length := by
  unfold ptD
  rw [total_pts, List.length_map]
set_option maxRecDepth 100000 in
set_option maxHeartbeats 16000000 in
theorem tdyads (g gd : Nat) (ps : List (Nat × Nat)) (d : Nat → Dy) (X : Nat → Option Addr) (c : Nat → Nat) (w : World) (h : Txt w g ps) (hm : total ps + total (ptD (d 0)) + total (ptD (d 1)) ≤ 3900)
    (hrow : ∀ k, k < 2 → ∀ w', Only g w w' → (w'.cell? ⟨gd, k * 3, none⟩ = some (.bool (d k).neg) ∧ w'.cell? ⟨gd, k * 3 + 1, none⟩ = some (.slice (X k) (d k).ls.length (c k)) ∧ w'.cell? ⟨gd, k * 3 + 2, none⟩ = some (.int .i64 (d k).ex)) ∧ Reads w' w'.heap.size 1 (X k) (d k).ls.length (ints .u32 (d k).ls))
    (hmay : ∀ k, k < 2 → mayd (d k) = true) (hlt : ∀ k, k < 2 → ∀ x ∈ (d k).ls, x < 4294967296) : Calls Try.prog 54 #[.pointer (some ⟨g, 0, none⟩), .slice (some ⟨gd, 0, none⟩) 2 2] w fun en w' => en = .returned (.tuple #[]) ∧ Txt w' g (ps ++ ptD (d 0) ++ ptD (d 1)) ∧ Only g w w' := by
  have hm0 : Hid (total ps + (4 + 4 * (d 0).ls.length) ≤ 3900) := Lib.hid (by rw [ptD_total] at hm; omega)
  have hm1 : Hid (total (ps ++ ptD (d 0)) + (4 + 4 * (d 1).ls.length) ≤ 3900) := Lib.hid (by rw [total_app]; rw [ptD_total (d 1)] at hm; omega)
  have hO0 := Only.refl g w
  clear hm
  go_enter Try.func54, Try.ntmps54
  go_wp2
  go_loopw [8] (fun t wr => (t = .int .i64 0 ∧ Txt wr g ps ∧ Only g w wr) ∨ (t = .int .i64 1 ∧ Txt wr g (ps ++ ptD (d 0)) ∧ Only g w wr) ∨ (t = .int .i64 2 ∧ Txt wr g (ps ++ ptD (d 0) ++ ptD (d 1)) ∧ Only g w wr)) (fun t _ => 2 - (intOf t).toNat)
  case atStart => exact .inl ⟨rfl, h, hO0⟩
  case round =>
    clear h hO0
    obtain ⟨rfl, hT, hO⟩ | ⟨rfl, hT, hO⟩ | ⟨rfl, hT, hO⟩ := hrel
    · obtain ⟨⟨r0, r1, r2⟩, rl⟩ := hrow 0 (by omega) wr hO
      obtain ⟨U, hU⟩ : ∃ U, U = wr.alloc (.cells #[.bool (d 0).neg, .slice (X 0) (d 0).ls.length (c 0), .int .i64 (d 0).ex] 24) := ⟨_, rfl⟩
      have hb0 : Below wr.heap.size wr U := by rw [hU]; exact (Below.refl _ _).alloc (Nat.le_refl _) _
      have kd : Blk U wr.heap.size 24 #[.bool (d 0).neg, .slice (X 0) (d 0).ls.length (c 0), .int .i64 (d 0).ex] := by rw [hU]; exact Blk.new wr _ _
      have hg := hT.lt
      have hT1 := hT.below hb0
      obtain ⟨A, cc, kt, ho⟩ := hT1
      go_upto_region 3 with (fail)
      rw [← hU]
      clear hU r0 r1 r2
      have y0 : U.cell? ⟨wr.heap.size, 0, none⟩ = some (.bool (d 0).neg) := by rw [kd.cell]; rfl
      have y1 : U.cell? ⟨wr.heap.size, 1, none⟩ = some (.slice (X 0) (d 0).ls.length (c 0)) := by rw [kd.cell]; rfl
      have y2 : U.cell? ⟨wr.heap.size, 2, none⟩ = some (.int .i64 (d 0).ex) := by rw [kd.cell]; rfl
      have z0 : U.cell? ⟨g, 0, none⟩ = some (.slice A (total ps) cc) := by rw [kt.cell]; rfl
      have hP := putd_any A (total ps) cc (flat ps) (flat_len _) (by have := hm0.out; omega) (d 0).neg (X 0) (d 0).ls.length (c 0) ((d 0).ls.map Int.ofNat) (by simp) (by intro x hx; obtain ⟨y, _, rfl⟩ := List.mem_map.1 hx; exact Int.natCast_nonneg y) (by intro x hx; obtain ⟨y, hy, rfl⟩ := List.mem_map.1 hx; have := hlt 0 (by omega) y hy; show (y : Int) < _; omega) (d 0).ex (hmay 0 (by omega)) U.drew (Reads.of_own ho) (by rw [← ints_u32s]; exact (rl.below hb0).more hb0.size)
      unfold dy at hP
      have gho := Lib.hid ho
      have gkt := Lib.hid kt
      have gkd := Lib.hid kd
      have gb0 := Lib.hid hb0
      clear ho kt kd rl hb0 hrow hmay hlt hT
      refine wp_region_noPanic ?_
      refine wp_region_held_drew (S := fun w' => w'.cell? ⟨wr.heap.size, 0, none⟩ = some (.bool (d 0).neg) ∧ w'.cell? ⟨wr.heap.size, 1, none⟩ = some (.slice (X 0) (d 0).ls.length (c 0)) ∧ w'.cell? ⟨wr.heap.size, 2, none⟩ = some (.int .i64 (d 0).ex)) (by kernel_rfl) (⟨y0, y1, y2⟩) (fun hHeld => ?_)
      refine wpAnyH_take (i := 0) (v := ?_) rfl (by kernel_rfl) (by kernel_rfl) (by kernel_rfl) (fun _ _ _ h => h) (Or.inl ⟨by rfl, ?_⟩) (by assumption) ?_
      rotate_left
      · (intro w hSw; (try dsimp only at hSw); go_simp; (try with_reducible rfl))
      (try simp only [Act.put, lsA, lsZ, lsS])
      refine wpAnyH_take (i := 1) (v := ?_) rfl (by kernel_rfl) (by kernel_rfl) (by kernel_rfl) (fun _ _ _ h => h) (Or.inl ⟨by rfl, ?_⟩) (by assumption) ?_
      rotate_left
      · (intro w hSw; (try dsimp only at hSw); go_simp; (try with_reducible rfl))
      (try simp only [Act.put, lsA, lsZ, lsS])
      refine wpAnyH_take (i := 2) (v := ?_) rfl (by kernel_rfl) (by kernel_rfl) (by kernel_rfl) (fun _ _ _ h => h) (Or.inl ⟨by rfl, ?_⟩) (by assumption) ?_
      rotate_left
      · (intro w hSw; (try dsimp only at hSw); go_simp; (try with_reducible rfl))
      (try simp only [Act.put, lsA, lsZ, lsS])
      refine wpAnyH_take (i := 3) (v := ?_) rfl (by kernel_rfl) (by kernel_rfl) (by kernel_rfl) (fun _ _ _ h => h) (Or.inl ⟨by rfl, ?_⟩) (by assumption) ?_
      rotate_left
      · (intro w hSw; (try dsimp only at hSw); go_simp; (try with_reducible rfl))
      (try simp only [Act.put, lsA, lsZ, lsS])
      refine wpAnyH_take (i := 5) (v := ?_) rfl (by kernel_rfl) (by kernel_rfl) (by kernel_rfl) (fun _ _ _ h => h) (Or.inl ⟨by rfl, ?_⟩) (by assumption) ?_
      rotate_left
      · (intro w hSw; (try dsimp only at hSw); go_simp; (try with_reducible rfl))
      (try simp only [Act.put, lsA, lsZ, lsS])
      refine wpAnyH_ready (rs := [4]) (by kernel_rfl) (by simp) ?_
      refine AllReadyH.cons rfl (fun K hK => ?_) AllReadyH.nil
      go_simp
      refine hK.out _ _ (⟨y0, y1, y2⟩) (fun hHeld => ?_)
      clear hK K
      (try simp only [Act.put, lsA, lsZ, lsS])
      refine wpAnyH_ready (rs := [6]) (by kernel_rfl) (by simp) ?_
      refine AllReadyH.cons rfl (fun K hK => ?_) AllReadyH.nil
      go_simp
      with_reducible refine hP.mono ?_
      rintro en w2 ⟨hb, ⟨hp, rfl⟩ | ⟨hp, A2, c2, rfl, ho⟩⟩
      · exact absurd hp (by have := hm0.out; have := total_pts (d 0).neg ((d 0).ls.map Int.ofNat) (d 0).ex; simp only [List.length_map] at this; omega)
      have kt2 := gkt.out.drew.below hb gkt.out.drew.lt
      have kd2 := gkd.out.drew.below hb gkd.out.drew.lt
      have x0 : w2.cell? ⟨wr.heap.size, 0, none⟩ = some (.bool (d 0).neg) := by rw [kd2.cell]; rfl
      have x1 : w2.cell? ⟨wr.heap.size, 1, none⟩ = some (.slice (X 0) (d 0).ls.length (c 0)) := by rw [kd2.cell]; rfl
      have x2 : w2.cell? ⟨wr.heap.size, 2, none⟩ = some (.int .i64 (d 0).ex) := by rw [kd2.cell]; rfl
      have z2 : w2.cell? ⟨g, 0, none⟩ = some (.slice A (total ps) cc) := by rw [kt2.cell]; rfl
      have f2 := kt2.frozen 0
      have gho2 := Lib.hid ho
      have ghb := Lib.hid hb
      have gkt2 := Lib.hid kt2
      have gkd2 := Lib.hid kd2
      clear ho hb kt2 kd2 hp
      refine hK.out _ _ (⟨x0, x1, x2⟩) (fun hHeld => ?_)
      clear hK K
      (try simp only [Act.put, lsA, lsZ, lsS])
      refine wpAnyH_take (i := 7) (v := ?_) rfl (by kernel_rfl) (by kernel_rfl) (by kernel_rfl) (fun _ _ _ h => h) (Or.inl ⟨by rfl, ?_⟩) (by assumption) ?_
      rotate_left
      · (intro w hSw; (try dsimp only at hSw); go_simp; (try with_reducible rfl))
      (try simp only [Act.put, lsA, lsZ, lsS])
      refine wpAnyH_take (i := 8) (v := ?_) rfl (by kernel_rfl) (by kernel_rfl) (by kernel_rfl) (fun _ _ _ h => h) (Or.inl ⟨by rfl, ?_⟩) (by assumption) ?_
      rotate_left
      · (intro w hSw; (try dsimp only at hSw); go_simp; (try with_reducible rfl))
      (try simp only [Act.put, lsA, lsZ, lsS])
      refine wpAnyH_take (i := 9) (v := ?_) rfl (by kernel_rfl) (by kernel_rfl) (by kernel_rfl) (fun _ _ _ h => h) (Or.inl ⟨by rfl, ?_⟩) (by assumption) ?_
      rotate_left
      · (intro w hSw; (try dsimp only at hSw); go_simp; (try with_reducible rfl))
      (try simp only [Act.put, lsA, lsZ, lsS])
      refine wpAnyH_take (i := 10) (v := ?_) rfl (by kernel_rfl) (by kernel_rfl) (by kernel_rfl) (fun _ _ _ h => h) (Or.inl ⟨by rfl, ?_⟩) (by assumption) ?_
      rotate_left
      · (intro w hSw; (try dsimp only at hSw); go_simp; (try with_reducible rfl))
      (try simp only [Act.put, lsA, lsZ, lsS])
      refine wpAnyH_take (i := 11) (v := ?_) rfl (by kernel_rfl) (by kernel_rfl) (by kernel_rfl) (fun _ _ _ h => h) (Or.inl ⟨by rfl, ?_⟩) (by assumption) ?_
      rotate_left
      · (intro w hSw; (try dsimp only at hSw); go_simp; (try with_reducible rfl))
      (try simp only [Act.put, lsA, lsZ, lsS])
      refine wpAnyH_ready (rs := [12]) (by kernel_rfl) (by simp) ?_
      refine AllReadyH.cons rfl (fun K hK => ?_) AllReadyH.nil
      go_simp
      refine hK.out _ _ (by (have kk := gkd2.out.far (p := ⟨g, 0, none⟩) (by show wr.heap.size ≠ g; omega) (.slice A2 (total ps + total (ptsD (d 0).neg ((d 0).ls.map Int.ofNat) (d 0).ex)) c2)); exact ⟨by rw [kk.cell]; rfl, by rw [kk.cell]; rfl, by rw [kk.cell]; rfl⟩) (fun hHeld => ?_)
      clear hK K
      (try simp only [Act.put, lsA, lsZ, lsS])
      refine wpAnyH_done (by kernel_rfl) ?_ _
      refine NoPanic.normal ?_
      have k3 := gkt2.out.set_ 0 (.slice A2 (total ps + total (ptsD (d 0).neg ((d 0).ls.map Int.ofNat) (d 0).ex)) c2)
      simp only [List.setIfInBounds_toArray, List.set_cons_zero] at k3
      have hT3 : Txt (w2.setCell ⟨g, 0, none⟩ (.slice A2 (total ps + total (ptsD (d 0).neg ((d 0).ls.map Int.ofNat) (d 0).ex)) c2)) g (ps ++ ptD (d 0)) := ⟨A2, c2, by rw [total_app ps (ptD (d 0))]; exact k3, by rw [total_app ps (ptD (d 0)), flat_app ps (ptD (d 0))]; exact own_setT (own_mono gho2.out (by have := gb0.out.size; show g + 1 ≤ U.heap.size; omega)) (p := ⟨g, 0, none⟩) (by show g < g + 1; omega) _⟩
      have hO3 : Only g w (w2.setCell ⟨g, 0, none⟩ (.slice A2 (total ps + total (ptsD (d 0).neg ((d 0).ls.map Int.ofNat) (d 0).ex)) c2)) := hO.trans ((Only.of_below (gb0.out.drew.trans (ghb.out.mono gb0.out.size))).trans (Only.set_ _ _ _ _))
      have gT3 := Lib.hid hT3
      have gO3 := Lib.hid hO3
      clear hT3 hO3 k3 gkt2 gho2 ghb gkd2 gb0 gkd gkt gho hO x0 x1 x2 z2 f2 y0 y1 y2 z0 hP
      go_wp2
      go_roundw
      case rel => exact .inr (.inl ⟨rfl, gT3.out, gO3.out⟩)
      case measure => simp [intOf]
    · obtain ⟨⟨r0, r1, r2⟩, rl⟩ := hrow 1 (by omega) wr hO
      obtain ⟨U, hU⟩ : ∃ U, U = wr.alloc (.cells #[.bool (d 1).neg, .slice (X 1) (d 1).ls.length (c 1), .int .i64 (d 1).ex] 24) := ⟨_, rfl⟩
      have hb0 : Below wr.heap.size wr U := by rw [hU]; exact (Below.refl _ _).alloc (Nat.le_refl _) _
      have kd : Blk U wr.heap.size 24 #[.bool (d 1).neg, .slice (X 1) (d 1).ls.length (c 1), .int .i64 (d 1).ex] := by rw [hU]; exact Blk.new wr _ _
      have hg := hT.lt
      have hT1 := hT.below hb0
      obtain ⟨A, cc, kt, ho⟩ := hT1
      go_upto_region 3 with (fail)
      rw [← hU]
      clear hU r0 r1 r2
      have y0 : U.cell? ⟨wr.heap.size, 0, none⟩ = some (.bool (d 1).neg) := by rw [kd.cell]; rfl
      have y1 : U.cell? ⟨wr.heap.size, 1, none⟩ = some (.slice (X 1) (d 1).ls.length (c 1)) := by rw [kd.cell]; rfl
      have y2 : U.cell? ⟨wr.heap.size, 2, none⟩ = some (.int .i64 (d 1).ex) := by rw [kd.cell]; rfl
      have z0 : U.cell? ⟨g, 0, none⟩ = some (.slice A (total (ps ++ ptD (d 0))) cc) := by rw [kt.cell]; rfl
      have hP := putd_any A (total (ps ++ ptD (d 0))) cc (flat (ps ++ ptD (d 0))) (flat_len _) (by have := hm1.out; omega) (d 1).neg (X 1) (d 1).ls.length (c 1) ((d 1).ls.map Int.ofNat) (by simp) (by intro x hx; obtain ⟨y, _, rfl⟩ := List.mem_map.1 hx; exact Int.natCast_nonneg y) (by intro x hx; obtain ⟨y, hy, rfl⟩ := List.mem_map.1 hx; have := hlt 1 (by omega) y hy; show (y : Int) < _; omega) (d 1).ex (hmay 1 (by omega)) U.drew (Reads.of_own ho) (by rw [← ints_u32s]; exact (rl.below hb0).more hb0.size)
      unfold dy at hP
      have gho := Lib.hid ho
      have gkt := Lib.hid kt
      have gkd := Lib.hid kd
      have gb0 := Lib.hid hb0
      clear ho kt kd rl hb0 hrow hmay hlt hT
      refine wp_region_noPanic ?_
      refine wp_region_held_drew (S := fun w' => w'.cell? ⟨wr.heap.size, 0, none⟩ = some (.bool (d 1).neg) ∧ w'.cell? ⟨wr.heap.size, 1, none⟩ = some (.slice (X 1) (d 1).ls.length (c 1)) ∧ w'.cell? ⟨wr.heap.size, 2, none⟩ = some (.int .i64 (d 1).ex)) (by kernel_rfl) (⟨y0, y1, y2⟩) (fun hHeld => ?_)
      refine wpAnyH_take (i := 0) (v := ?_) rfl (by kernel_rfl) (by kernel_rfl) (by kernel_rfl) (fun _ _ _ h => h) (Or.inl ⟨by rfl, ?_⟩) (by assumption) ?_
      rotate_left
      · (intro w hSw; (try dsimp only at hSw); go_simp; (try with_reducible rfl))
      (try simp only [Act.put, lsA, lsZ, lsS])
      refine wpAnyH_take (i := 1) (v := ?_) rfl (by kernel_rfl) (by kernel_rfl) (by kernel_rfl) (fun _ _ _ h => h) (Or.inl ⟨by rfl, ?_⟩) (by assumption) ?_
      rotate_left
      · (intro w hSw; (try dsimp only at hSw); go_simp; (try with_reducible rfl))
      (try simp only [Act.put, lsA, lsZ, lsS])
      refine wpAnyH_take (i := 2) (v := ?_) rfl (by kernel_rfl) (by kernel_rfl) (by kernel_rfl) (fun _ _ _ h => h) (Or.inl ⟨by rfl, ?_⟩) (by assumption) ?_
      rotate_left
      · (intro w hSw; (try dsimp only at hSw); go_simp; (try with_reducible rfl))
      (try simp only [Act.put, lsA, lsZ, lsS])
      refine wpAnyH_take (i := 3) (v := ?_) rfl (by kernel_rfl) (by kernel_rfl) (by kernel_rfl) (fun _ _ _ h => h) (Or.inl ⟨by rfl, ?_⟩) (by assumption) ?_
      rotate_left
      · (intro w hSw; (try dsimp only at hSw); go_simp; (try with_reducible rfl))
      (try simp only [Act.put, lsA, lsZ, lsS])
      refine wpAnyH_take (i := 5) (v := ?_) rfl (by kernel_rfl) (by kernel_rfl) (by kernel_rfl) (fun _ _ _ h => h) (Or.inl ⟨by rfl, ?_⟩) (by assumption) ?_
      rotate_left
      · (intro w hSw; (try dsimp only at hSw); go_simp; (try with_reducible rfl))
      (try simp only [Act.put, lsA, lsZ, lsS])
      refine wpAnyH_ready (rs := [4]) (by kernel_rfl) (by simp) ?_
      refine AllReadyH.cons rfl (fun K hK => ?_) AllReadyH.nil
      go_simp
      refine hK.out _ _ (⟨y0, y1, y2⟩) (fun hHeld => ?_)
      clear hK K
      (try simp only [Act.put, lsA, lsZ, lsS])
      refine wpAnyH_ready (rs := [6]) (by kernel_rfl) (by simp) ?_
      refine AllReadyH.cons rfl (fun K hK => ?_) AllReadyH.nil
      go_simp
      with_reducible refine hP.mono ?_
      rintro en w2 ⟨hb, ⟨hp, rfl⟩ | ⟨hp, A2, c2, rfl, ho⟩⟩
      · exact absurd hp (by have := hm1.out; have := total_pts (d 1).neg ((d 1).ls.map Int.ofNat) (d 1).ex; simp only [List.length_map] at this; omega)
      have kt2 := gkt.out.drew.below hb gkt.out.drew.lt
      have kd2 := gkd.out.drew.below hb gkd.out.drew.lt
      have x0 : w2.cell? ⟨wr.heap.size, 0, none⟩ = some (.bool (d 1).neg) := by rw [kd2.cell]; rfl
      have x1 : w2.cell? ⟨wr.heap.size, 1, none⟩ = some (.slice (X 1) (d 1).ls.length (c 1)) := by rw [kd2.cell]; rfl
      have x2 : w2.cell? ⟨wr.heap.size, 2, none⟩ = some (.int .i64 (d 1).ex) := by rw [kd2.cell]; rfl
      have z2 : w2.cell? ⟨g, 0, none⟩ = some (.slice A (total (ps ++ ptD (d 0))) cc) := by rw [kt2.cell]; rfl
      have f2 := kt2.frozen 0
      have gho2 := Lib.hid ho
      have ghb := Lib.hid hb
      have gkt2 := Lib.hid kt2
      have gkd2 := Lib.hid kd2
      clear ho hb kt2 kd2 hp
      refine hK.out _ _ (⟨x0, x1, x2⟩) (fun hHeld => ?_)
      clear hK K
      (try simp only [Act.put, lsA, lsZ, lsS])
      refine wpAnyH_take (i := 7) (v := ?_) rfl (by kernel_rfl) (by kernel_rfl) (by kernel_rfl) (fun _ _ _ h => h) (Or.inl ⟨by rfl, ?_⟩) (by assumption) ?_
      rotate_left
      · (intro w hSw; (try dsimp only at hSw); go_simp; (try with_reducible rfl))
      (try simp only [Act.put, lsA, lsZ, lsS])
      refine wpAnyH_take (i := 8) (v := ?_) rfl (by kernel_rfl) (by kernel_rfl) (by kernel_rfl) (fun _ _ _ h => h) (Or.inl ⟨by rfl, ?_⟩) (by assumption) ?_
      rotate_left
      · (intro w hSw; (try dsimp only at hSw); go_simp; (try with_reducible rfl))
      (try simp only [Act.put, lsA, lsZ, lsS])
      refine wpAnyH_take (i := 9) (v := ?_) rfl (by kernel_rfl) (by kernel_rfl) (by kernel_rfl) (fun _ _ _ h => h) (Or.inl ⟨by rfl, ?_⟩) (by assumption) ?_
      rotate_left
      · (intro w hSw; (try dsimp only at hSw); go_simp; (try with_reducible rfl))
      (try simp only [Act.put, lsA, lsZ, lsS])
      refine wpAnyH_take (i := 10) (v := ?_) rfl (by kernel_rfl) (by kernel_rfl) (by kernel_rfl) (fun _ _ _ h => h) (Or.inl ⟨by rfl, ?_⟩) (by assumption) ?_
      rotate_left
      · (intro w hSw; (try dsimp only at hSw); go_simp; (try with_reducible rfl))
      (try simp only [Act.put, lsA, lsZ, lsS])
      refine wpAnyH_take (i := 11) (v := ?_) rfl (by kernel_rfl) (by kernel_rfl) (by kernel_rfl) (fun _ _ _ h => h) (Or.inl ⟨by rfl, ?_⟩) (by assumption) ?_
      rotate_left
      · (intro w hSw; (try dsimp only at hSw); go_simp; (try with_reducible rfl))
      (try simp only [Act.put, lsA, lsZ, lsS])
      refine wpAnyH_ready (rs := [12]) (by kernel_rfl) (by simp) ?_
      refine AllReadyH.cons rfl (fun K hK => ?_) AllReadyH.nil
      go_simp
      refine hK.out _ _ (by (have kk := gkd2.out.far (p := ⟨g, 0, none⟩) (by show wr.heap.size ≠ g; omega) (.slice A2 (total (ps ++ ptD (d 0)) + total (ptsD (d 1).neg ((d 1).ls.map Int.ofNat) (d 1).ex)) c2)); exact ⟨by rw [kk.cell]; rfl, by rw [kk.cell]; rfl, by rw [kk.cell]; rfl⟩) (fun hHeld => ?_)
      clear hK K
      (try simp only [Act.put, lsA, lsZ, lsS])
      refine wpAnyH_done (by kernel_rfl) ?_ _
      refine NoPanic.normal ?_
      have k3 := gkt2.out.set_ 0 (.slice A2 (total (ps ++ ptD (d 0)) + total (ptsD (d 1).neg ((d 1).ls.map Int.ofNat) (d 1).ex)) c2)
      simp only [List.setIfInBounds_toArray, List.set_cons_zero] at k3
      have hT3 : Txt (w2.setCell ⟨g, 0, none⟩ (.slice A2 (total (ps ++ ptD (d 0)) + total (ptsD (d 1).neg ((d 1).ls.map Int.ofNat) (d 1).ex)) c2)) g (ps ++ ptD (d 0) ++ ptD (d 1)) := ⟨A2, c2, by rw [total_app (ps ++ ptD (d 0)) (ptD (d 1))]; exact k3, by rw [total_app (ps ++ ptD (d 0)) (ptD (d 1)), flat_app (ps ++ ptD (d 0)) (ptD (d 1))]; exact own_setT (own_mono gho2.out (by have := gb0.out.size; show g + 1 ≤ U.heap.size; omega)) (p := ⟨g, 0, none⟩) (by show g < g + 1; omega) _⟩
      have hO3 : Only g w (w2.setCell ⟨g, 0, none⟩ (.slice A2 (total (ps ++ ptD (d 0)) + total (ptsD (d 1).neg ((d 1).ls.map Int.ofNat) (d 1).ex)) c2)) := hO.trans ((Only.of_below (gb0.out.drew.trans (ghb.out.mono gb0.out.size))).trans (Only.set_ _ _ _ _))
      have gT3 := Lib.hid hT3
      have gO3 := Lib.hid hO3
      clear hT3 hO3 k3 gkt2 gho2 ghb gkd2 gb0 gkd gkt gho hO x0 x1 x2 z2 f2 y0 y1 y2 z0 hP
      go_wp2
      go_roundw
      case rel => exact .inr (.inr ⟨rfl, gT3.out, gO3.out⟩)
      case measure => simp [intOf]
    · clear hrow hmay hlt
      go_wp2
      go_end0
      exact ⟨rfl, hT, hO⟩
end Go.Proofs.Ytjmhefkmpfkpbaa
namespace Go.Proofs.Ytjmhefkmpfkpbaa
open Go.ChangeShapes Go.WideShapes Go.ChangeAt Go.RowKit
set_option linter.unusedSimpArgs false
set_option linter.unusedVariables false
theorem tnumI (g : Nat) (ps : List (Nat × Nat)) (s : Nat) (i j : Int) (h1 : 1 ≤ s) (h8 : s ≤ 4) (h0 : 0 ≤ i) (hi : i < ((256 ^ s : Nat) : Int)) (hj : j = (s : Int)) (hm : total ps + s ≤ 3900) (w : World) (h : Txt w g ps) : Calls Try.prog 53 #[.pointer (some ⟨g, 0, none⟩), .int .i64 i, .int .i64 j] w fun en w' => en = .returned (.tuple #[]) ∧ Txt w' g (ps ++ [(i.toNat, s)]) ∧ Only g w w' := by
  obtain ⟨x, rfl⟩ : ∃ x : Nat, i = x := ⟨i.toNat, by omega⟩
  subst hj
  have hs : s = 1 ∨ s = 2 ∨ s = 3 ∨ s = 4 := by omega
  have hx : x < 256 ^ s := by omega
  have hx2 : x < 9223372036854775808 := by rcases hs with rfl | rfl | rfl | rfl <;> omega
  exact tnum g ps x s ⟨h1, by omega, hx⟩ hx2 hm w h
def hdP (m : Ml) : List (Nat × Nat) := [(m.fr.toNat, 1), (m.tt.toNat, 1), (m.ep.toNat, 2), (m.nu.toNat, 3)]
def dsP (l : List Tm) : List (Nat × Nat) := l.flatMap fun d => [(d.1.toNat, 1), (d.2.toNat, 4)]
def lsP (l : List Nat) : List (Nat × Nat) := l.map fun x => (x, 4)
def bP (b : Bool) : Nat := if b then 1 else 0
/-- What is written of a mail. -/
def conP (m : Ml) : List (Nat × Nat) :=
  if m.kd = 1 then hdP m ++ (ptD m.give.s ++ ptD m.give.w)
  else if m.kd = 2 then hdP m ++ (ptD m.give.c ++ ptD m.give.a)
  else if m.kd = 3 then hdP m ++ ((m.ab.toNat, 3) :: (ptD m.give.c ++ ptD m.give.a))
  else if m.kd = 4 then hdP m ++ [(m.ab.toNat, 3)]
  else if m.kd = 5 then hdP m ++ ((bP m.wa, 1) :: (m.ds.length, 1) :: dsP m.ds)
  else hdP m ++ ((bP m.eh, 1) :: ((m.e1 + 2147483648).toNat, 4) :: ((m.e2 + 2147483648).toNat, 4) :: (m.ls.length, 1) :: lsP m.ls)
end Go.Proofs.Ytjmhefkmpfkpbaa
